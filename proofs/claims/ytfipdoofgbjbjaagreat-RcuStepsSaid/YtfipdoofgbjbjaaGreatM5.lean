/- Walks and plain laws for this claim, part 5. No condition but sizes. -/
import Derived.Test.YtfipdoofgbjbjaaGreatM4
import Derived.Test.YtfipdoofgbjbjaaGreatM1
/- package rcu: tries. No condition but sizes, and that numbers are of their kinds. -/
namespace Go.Proofs.YtfipdoofgbjbjaaGreat
open Go.RowKit
attribute [local go_sem] Oper.semAt_some
theorem rneed_yes (e : Int) (w : World) : Calls Tryz.prog 46 #[.bool true, .int .i64 e] w fun x w' => x = .returned (.tuple #[]) ∧ w' = w := by
  go_enter Tryz.func46, Tryz.ntmps46
  go_wp2
  go_end0
  exact ⟨rfl, rfl⟩
theorem rneed_no (e : Int) (w : World) : Calls Tryz.prog 46 #[.bool false, .int .i64 e] w fun x w' => x = leaves e ∧ w' = w := by
  go_enter Tryz.func46, Tryz.ntmps46
  go_wp2
  exact ⟨rfl, rfl, rfl⟩
theorem info_que : (Tryz.prog.info? 58).map (fun i => (i.zero, i.size, i.bytes)) = some (some (.agg #[.slice none 0 0, .int .u64 0]), 2, 32) := by kernel_rfl
theorem encQ_one (y : Qe) (j : Nat) (_ : j < 2) : (encQ y j).oneCell' = true := by
  unfold encQ; split <;> rfl
/-- what queues hold, wherever they lie -/
def ql (es : List Qe) : List (List Cb × Int) := es.map fun x => (x.l, x.o)
@[reducible] def ccells (s : St) (g : Gr) (a : Ra) (is what : Int) (R : Option Addr) (nr kr : Nat) : Array Value := #[.int .i64 s.1, .slice a.A a.n a.k, .slice a.B a.m a.d, .int .i64 g.dn, .int .i64 g.ak, .bool g.on, .slice a.D g.nd.length a.kd, .slice a.Q a.nq a.kq, .int .i64 is, .int .u64 what, .slice R nr kr]
/-- all of it, owned, each row in blocks of its type -/
structure RcT (w : World) (lo : Nat) (s : St) (g : Gr) (es : List Qe) (a : Ra) : Prop where
  ro : Rown w lo a.A a.n a.k a.B a.m a.d s.2.1 s.2.2
  gd : Ow blv w lo 4 a.D g.nd.length a.kd g.nd
  qs : Om 2 encQ w lo 58 a.Q a.nq a.kq es
  qe : ∀ x ∈ es, Om 2 encC w lo 60 x.A x.n x.c x.l ∧ x.n ≤ 1000
theorem RcT.step {w w' : World} {lo : Nat} {s : St} {g : Gr} {es : List Qe} {a : Ra} (h : RcT w lo s g es a) (hb : Below w.heap.size w w') : RcT w' lo s g es a :=
  ⟨h.ro.step hb, h.gd.step hb, h.qs.step hb, fun x hx => ⟨(h.qe x hx).1.step hb, (h.qe x hx).2⟩⟩
theorem Rown.keptM' {α : Type} {sz : Nat} {enc : α → Nat → Value} {xs : List α} {w w' : World} {lo lo2 n c m d k cl : Nat} {e : TypeId} {A B L : Option Addr} {ns os : List Int} (h : Rown w lo A n c B m d ns os) (ho : Om sz enc w lo2 e L k cl xs) (h1 : 3 ≠ e) (hg : w.grownBy w' (Value.slice L k cl).ownBlock) : Rown w' lo A n c B m d ns os :=
  ⟨h.oa.keptM ho h1 hg, h.ob.keptM ho h1 hg, h.apart, h.hn, h.hm⟩
theorem Rown.keptR {w w' : World} {lo n c m d g : Nat} {t : TypeId} {A B : Option Addr} {ns os : List Int} {cs : Array Value} (h : Rown w lo A n c B m d ns os) (hb : Blk w g t cs) (hne : t ≠ 3) (hg : w.grownBy w' (some g)) : Rown w' lo A n c B m d ns os :=
  ⟨h.oa.keptR hb hne hg, h.ob.keptR hb hne hg, h.apart, h.hn, h.hm⟩
theorem Om.keptR {α : Type} {sz : Nat} {enc : α → Nat → Value} {w w' : World} {lo n c g : Nat} {e t : TypeId} {A : Option Addr} {xs : List α} {cs : Array Value} (h : Om sz enc w lo e A n c xs) (hb : Blk w g t cs) (hne : t ≠ e) (hg : w.grownBy w' (some g)) : Om sz enc w' lo e A n c xs :=
  h.keptG hg (fun a ha e => h.ne_blk hb hne a ha (Option.some.inj e))
/-- a box of another type is turned -/
theorem RcT.keptR {w w' : World} {lo gb : Nat} {t : TypeId} {cs : Array Value} {s : St} {g : Gr} {es : List Qe} {a : Ra} (h : RcT w lo s g es a) (hb : Blk w gb t cs) (h1 : t ≠ 3) (h2 : t ≠ 4) (h3 : t ≠ 58) (h4 : t ≠ 60) (hg : w.grownBy w' (some gb)) : RcT w' lo s g es a :=
  ⟨h.ro.keptR hb h1 hg, h.gd.keptR hb h2 hg, h.qs.keptR hb h3 hg, fun x hx => ⟨(h.qe x hx).1.keptR hb h4 hg, (h.qe x hx).2⟩⟩
/-- one element, in a block -/
theorem Sm.oneB {α : Type} {sz : Nat} {enc : α → Nat → Value} {d : α} {w : World} {g : Nat} {e : TypeId} {cs : Array Value} {x : α} (h : Blk w g e cs) (hc : ∀ j, j < sz → cs[j]? = some (enc x j)) : Sm sz enc d w 0 w.heap.size (some ⟨g, 0, none⟩) 1 [x] := by
  refine ⟨rfl, fun _ => ⟨g, 0, rfl, Nat.zero_le _, h.lt, fun k hk j hj => ?_⟩⟩
  obtain rfl : k = 0 := by omega
  rw [show 0 + 0 * sz + j = j by omega, h.cell, hc j hj]
  rfl
/-- what tries hands back -/
def RTried (w : World) (q : Nat → Prop) (YES : Nat → Nat → World → Prop) (NO : Int → World → Prop) (x : Ending) (w' : World) : Prop :=
  GrownP q w w' ∧ ((∃ gb, x = .returned (.tuple #[ptr gb, .int .i64 0]) ∧ ∃ l, w.heap.size ≤ l ∧ l ≤ gb ∧ YES l gb w') ∨ ∃ gn c, x = .returned (.tuple #[ptr gn, .int .i64 c]) ∧ NO c w' ∧ w.heap.size ≤ gn ∧ Blk w' gn 78 cpu0)
set_option maxRecDepth 100000 in
set_option maxHeartbeats 8000000 in
theorem rtries_any (s : St) (g : Gr) (es : List Qe) (a : Ra) (F : Nat) (caps : Array Value) (q : Nat → Prop) (YES : Nat → Nat → World → Prop) (NO : Int → World → Prop) (w : World) (hq : ∀ i, q i → i < w.heap.size) (h : RcR w s g es a) (hF : Enters Tryz.prog F)
    (hno : ¬ RcOk s g es → ∀ W, Below w.heap.size w W → NO 240 W)
    (hdo : RcOk s g es → ∀ (w1 : World) (l gc : Nat) (a1 : Ra) (es1 : List Qe), w.heap.size ≤ l → l ≤ gc → Below w.heap.size w w1 → Blk w1 gc 78 (ccells s g a1 0 0 none 0 0) → RcT w1 l s g es1 a1 → ql es1 = ql es →
      Calls Tryz.prog F (#[ptr gc] ++ caps) w1 fun x w2 => GrownP (fun i => q i ∨ l ≤ i) w1 w2 ∧ ((x = .returned (.tuple #[]) ∧ YES l gc w2) ∨ ∃ c, x = leaves c ∧ NO c w2))
    (hst : ∀ (l gb : Nat) (W : World) (p : Addr) (u : Value), YES l gb W → w.heap.size ≤ p.block → p.block < l → YES l gb (W.setCell p u))
    (hsn : ∀ (c : Int) (W W' : World), NO c W → Below w.heap.size W W' → NO c W') :
    Calls Tryz.prog 33 #[rcv s g a, .func (.func F) #[] caps] w (RTried w q YES NO) := by
  have HR := hid h; have HB := hid (Below.refl w.heap.size w); have HDO := hid hdo; have HF := hid hF; have HST := hid hst; have HSN := hid hsn; have HQ := hid hq; have HNO := hid hno
  clear h hdo hF hst hsn hq hno
  obtain ⟨A, n, k, B, m, d, D, kd, Q, nq, kq⟩ := a
  obtain ⟨now, ns, os⟩ := s
  have hmf : ∀ (fn : Fn) (first cap : Array Value) (w : World), (Instr.makeFunc fn first cap).run Tryz.prog w = .ok (.func fn first cap) w := fun _ _ _ _ => rfl
  have hQ3 := hid HR.out.qs.len
  have bx := below_box w (.cells (rcells (now, ns, os) g ⟨A, n, k, B, m, d, D, kd, Q, nq, kq⟩) 30)
  replace HR := hid (HR.out.step bx); replace HB := hid (below_then HB.out bx)
  clear bx
  have P2 := hid (Blk.new w 30 (rcells (now, ns, os) g ⟨A, n, k, B, m, d, D, kd, Q, nq, kq⟩))
  have bx := below_box (w.alloc (.cells (rcells (now, ns, os) g ⟨A, n, k, B, m, d, D, kd, Q, nq, kq⟩) 30)) (.cells #[.pointer none] 72)
  replace HR := hid (HR.out.step bx); replace P2 := hid (P2.out.step bx); replace HB := hid (below_then HB.out bx)
  clear bx
  have P4 := hid (Blk.new2 w 72 #[.pointer none] (.cells (rcells (now, ns, os) g ⟨A, n, k, B, m, d, D, kd, Q, nq, kq⟩) 30))
  have bx := below_box ((w.alloc (.cells (rcells (now, ns, os) g ⟨A, n, k, B, m, d, D, kd, Q, nq, kq⟩) 30)).alloc (.cells #[.pointer none] 72)) (.cells #[.int .i64 0] 39)
  replace HR := hid (HR.out.step bx); replace P2 := hid (P2.out.step bx); replace P4 := hid (P4.out.step bx); replace HB := hid (below_then HB.out bx)
  clear bx
  have P5 := hid (Blk.new3 w 39 #[.int .i64 0] (.cells (rcells (now, ns, os) g ⟨A, n, k, B, m, d, D, kd, Q, nq, kq⟩) 30) (.cells #[.pointer none] 72))
  go_enter_defers Tryz.func33, Tryz.ntmps33
  go_upto_region 2 with fail
  have hz0 := hid (show (((w.alloc (.cells (rcells (now, ns, os) g ⟨A, n, k, B, m, d, D, kd, Q, nq, kq⟩) 30)).alloc (.cells #[.pointer none] 72)).alloc (.cells #[.int .i64 0] 39)).heap.size = w.heap.size + 3 by simp)
  generalize ((w.alloc (.cells (rcells (now, ns, os) g ⟨A, n, k, B, m, d, D, kd, Q, nq, kq⟩) 30)).alloc (.cells #[.pointer none] 72)).alloc (.cells #[.int .i64 0] 39) = W0 at *
  have HZ := hz0
  clear hmf
  obtain ⟨y00, y01, y02, y03, y04, y05, y06, y07, yf0⟩ := P2.out.cells8
  go_wp2_with fail
  clear y00 y01 y02 y03 y04 y05 y06 y07 yf0
  refine (rcheck_any (now, ns, os) g es ⟨A, n, k, B, m, d, D, kd, Q, nq, kq⟩ _ HR.out).mono ?_
  rintro e w1 ⟨rfl, hb⟩
  have HS1 := hid hb.size
  replace HR := hid (HR.out.step hb); replace P2 := hid (P2.out.step hb); replace P4 := hid (P4.out.step hb); replace P5 := hid (P5.out.step hb); replace HB := hid (below_then HB.out hb)
  clear hb
  by_cases hok : RcOk (now, ns, os) g es
  rotate_left
  ·skip
   rw [show rcheckC (now, ns, os) g es = 240 from if_neg hok]
   have HN := hid (HNO.out hok)
   clear hok
   go_wp2_with fail
   refine (rneed_no 240 _).mono ?_
   rintro x v1 ⟨rfl, rfl⟩
   have HZZ := hid (show w.heap.size + 3 ≤ v1.heap.size by have := HZ.out; have := HS1.out; omega)
   refine leaves_cons (f := 71) (args := #[ptr (w.heap.size + 1), ptr (w.heap.size + 1 + 1)]) (by simp) (by simp [go_sem]) ?_
   refine (rcatch_panicking (w.heap.size + 1) (w.heap.size + 1 + 1) w.heap.size 240 _ _ v1 P4.out P5.out (by omega) (by omega) HB.out.size).mono ?_
   rintro x u' w'' ⟨rfl, rfl, gn, hgn, hbb, hbn, hb4, hb5⟩
   have c4 := hb4.cell 0
   have c5 := hb5.cell 0
   simp [Leaves, settle, results, Tryz.results33, go_sem, c4, c5]
   have hfin := HB.out.trans hbb
   exact ⟨.mono (.ofBelow hfin) (fun _ h => h), .inr ⟨_, _, rfl, HN.out _ hfin, by have := HZZ.out; omega, hbn⟩⟩
  rw [show rcheckC (now, ns, os) g es = 0 from if_pos hok]
  have HOK := hid hok
  clear hok HNO
  go_wp2_with fail
  refine (rneed_yes 240 _).mono ?_
  rintro x v1 ⟨rfl, rfl⟩
  have hv := hid (show w.heap.size + 3 ≤ v1.heap.size by have := HZ.out; have := HS1.out; omega)
  have HVL := hid (Below.refl v1.heap.size v1)
  have XHR := HR; have XP2 := P2; have XP4 := P4; have XP5 := P5; have XHB := HB
  clear HR P4 P5 HB
  obtain ⟨y00, y01, y02, y03, y04, y05, y06, y07, yf0⟩ := P2.out.cells8
  have bx := below_box v1 (.cells #[.int .i64 0, .slice none 0 0, .slice none 0 0, .int .i64 g.dn, .int .i64 g.ak, .bool g.on, .slice D g.nd.length kd, .slice none 0 0] 30)
  replace HVL := hid (below_then HVL.out bx)
  clear bx
  have PO := hid (Blk.new v1 30 #[.int .i64 0, .slice none 0 0, .slice none 0 0, .int .i64 g.dn, .int .i64 g.ak, .bool g.on, .slice D g.nd.length kd, .slice none 0 0])
  go_upto_region 4 with fail
  clear P2 y00 y01 y02 y03 y04 y05 y06 y07 yf0
  have hz3w := hid (show (v1.alloc (.cells #[.int .i64 0, .slice none 0 0, .slice none 0 0, .int .i64 g.dn, .int .i64 g.ak, .bool g.on, .slice D g.nd.length kd, .slice none 0 0] 30)).heap.size = v1.heap.size + 1 by simp)
  generalize v1.alloc (.cells #[.int .i64 0, .slice none 0 0, .slice none 0 0, .int .i64 g.dn, .int .i64 g.ak, .bool g.on, .slice D g.nd.length kd, .slice none 0 0] 30) = W3 at *
  have bx := (Below.refl W3.heap.size W3).drew
  replace PO := hid (PO.out.step bx); replace HVL := hid (below_then HVL.out bx)
  clear bx
  have hszd := hid (show W3.drew.heap.size = W3.heap.size from rfl)
  refine wp_region_noPanic ?_
  refine wp_region_held_tail 12 (fun W' : World => W'.cell? ⟨w.heap.size, 0, none⟩ = some (.int .i64 now) ∧ W'.cell? ⟨w.heap.size, 1, none⟩ = some (.slice A n k) ∧ W'.cell? ⟨w.heap.size, 2, none⟩ = some (.slice B m d)) #[false, false, false, false, false, false, false, false, false, false, false, false, false, false] (by kernel_rfl) ⟨(XP2.out.below HVL.out XP2.out.lt).cells8.1, (XP2.out.below HVL.out XP2.out.lt).cells8.2.1, (XP2.out.below HVL.out XP2.out.lt).cells8.2.2.1⟩ (by kernel_rfl) (by kernel_rfl) (fun hS => ?_)
  generalize W3.drew = Wd at *
  refine tkT 0 hS ?_
  refine tkT 1 hS ?_
  refine tkT 2 hS ?_
  refine tkT 3 hS ?_
  refine tkT 4 hS ?_
  refine tkT 5 hS ?_
  refine tkT 7 hS ?_
  refine tkT 8 hS ?_
  refine tkT 9 hS ?_
  refine rdyT [6] (csyT (fun K hK => ?_) AllReadyT.nil)
  go_simp
  refine (clone_int A n k 0 ns _ ((XHR.out.rd.hx.below HVL.out (Nat.le_refl _)).mono (Nat.le_refl _) HVL.out.size) (by have := XHR.out.rd.hn; dsimp only at this; omega)).mono ?_
  rintro e w6 ⟨A6, c6, rfl, ho, hb⟩
  have hsz0 := hid (show Wd.heap.size ≤ w6.heap.size from hb.size)
  replace PO := hid (PO.out.step hb); replace HVL := hid (below_then HVL.out hb)
  clear hb
  have O6 := hid ho; have O6b := hid ho; have HZ6 := hid HVL.out.size
  go_wp2_with fail
  clear hS
  refine kyT hK ⟨(XP2.out.below HVL.out XP2.out.lt).cells8.1, (XP2.out.below HVL.out XP2.out.lt).cells8.2.1, (XP2.out.below HVL.out XP2.out.lt).cells8.2.2.1⟩ fun hS => ?_
  clear hK K
  refine rdyT [10] (csyT (fun K hK => ?_) AllReadyT.nil)
  go_simp
  refine (clone_int B m d 0 os _ ((XHR.out.rd.hy.below HVL.out (Nat.le_refl _)).mono (Nat.le_refl _) HVL.out.size) (by have := XHR.out.rd.hm; dsimp only at this; omega)).mono ?_
  rintro e w10 ⟨A10, c10, rfl, ho, hb⟩
  have hsz1 := hid (show w6.heap.size ≤ w10.heap.size from hb.size)
  replace PO := hid (PO.out.step hb); replace O6 := hid (O6.out.step hb); replace HVL := hid (below_then HVL.out hb)
  clear hb
  have O10 := hid ho; have O10b := hid ho
  go_wp2_with fail
  clear hS
  refine kyT hK ⟨(XP2.out.below HVL.out XP2.out.lt).cells8.1, (XP2.out.below HVL.out XP2.out.lt).cells8.2.1, (XP2.out.below HVL.out XP2.out.lt).cells8.2.2.1⟩ fun hS => ?_
  clear hK K
  refine tkT 11 hS ?_
  refine wpAnyT_done (by kernel_rfl) ?_
  simp only [List.drop_succ_cons, List.drop_zero]
  clear hS
  obtain ⟨y00, y01, y02, y03, y04, y05, y06, y07, yf0⟩ := PO.out.cells8
  go_wp2_with fail
  refine NoPanic.normal ?_
  clear y00 y01 y02 y03 y04 y05 y06 y07 yf0
  have hgr := grown_set (grown_set (grown_set (World.grownBy.refl w10 (some v1.heap.size)) 0 (.int .i64 now)) 1 (.slice A6 n c6)) 2 (.slice A10 m c10)
  have hro := hid (show Rown (((w10.setCell ⟨v1.heap.size, 0, none⟩ (.int .i64 now)).setCell ⟨v1.heap.size, 1, none⟩ (.slice A6 n c6)).setCell ⟨v1.heap.size, 2, none⟩ (.slice A10 m c10)) v1.heap.size A6 n c6 A10 m c10 ns os from ⟨(O6.out.keptR PO.out (by decide) hgr).mono (by have := hszd.out; have := hz3w.out; omega), (O10.out.keptR PO.out (by decide) hgr).mono HZ6.out, fun ga gq h1 h2 e => by subst e; obtain ⟨_, cs5, q5⟩ := O6b.out.blk _ h1; have := q5.lt; have := (O10b.out.blk _ h2).1; omega, XHR.out.rd.hn, XHR.out.rd.hm⟩)
  replace HVL := hid (HVL.out.grown hgr HVL.out.size (fun r e => by cases e; exact Nat.le_refl _))
  replace PO := hid (show Blk (((w10.setCell ⟨v1.heap.size, 0, none⟩ (.int .i64 now)).setCell ⟨v1.heap.size, 1, none⟩ (.slice A6 n c6)).setCell ⟨v1.heap.size, 2, none⟩ (.slice A10 m c10)) v1.heap.size 30 #[.int .i64 now, .slice A6 n c6, .slice A10 m c10, .int .i64 g.dn, .int .i64 g.ak, .bool g.on, .slice D g.nd.length kd, .slice none 0 0] from ((PO.out.setCell 0 _).setCell 1 _).setCell 2 _)
  have RO := hid hro
  clear hgr hro O6 O10 O6b O10b hszd HZ6
  generalize ((w10.setCell ⟨v1.heap.size, 0, none⟩ (.int .i64 now)).setCell ⟨v1.heap.size, 1, none⟩ (.slice A6 n c6)).setCell ⟨v1.heap.size, 2, none⟩ (.slice A10 m c10) = W4 at *
  have P2a := hid (XP2.out.below HVL.out XP2.out.lt)
  obtain ⟨y00, y01, y02, y03, y04, y05, y06, y07, yf0⟩ := P2a.out.cells8
  go_wp2_with fail
  clear P2a y00 y01 y02 y03 y04 y05 y06 y07 yf0
  refine (clone_bool D g.nd.length kd 0 g.nd W4 ((XHR.out.gd.below HVL.out (Nat.le_refl _)).mono (Nat.le_refl _) HVL.out.size) (by have := XHR.out.gl; omega)).mono ?_
  rintro e W5 ⟨A7, c7, rfl, ho, hb⟩
  have DO := hid (ho.mono HVL.out.size)
  replace PO := hid (PO.out.step hb); replace RO := hid (RO.out.step hb); replace HVL := hid (below_then HVL.out hb)
  clear ho hb
  have P2a := hid (XP2.out.below HVL.out XP2.out.lt)
  obtain ⟨y00, y01, y02, y03, y04, y05, y06, y07, yf0⟩ := PO.out.cells8
  go_upto_region 6 with fail
  clear P2a y00 y01 y02 y03 y04 y05 y06 y07 yf0
  have hgr := grown_set (World.grownBy.refl W5 (some v1.heap.size)) 6 (.slice A7 g.nd.length c7)
  replace RO := hid (RO.out.keptR PO.out (by decide) hgr); replace DO := hid (DO.out.keptR PO.out (by decide) hgr); replace HVL := hid (HVL.out.grown hgr HVL.out.size (fun r e => by cases e; exact Nat.le_refl _))
  replace PO := hid (show Blk (W5.setCell ⟨v1.heap.size, 6, none⟩ (.slice A7 g.nd.length c7)) v1.heap.size 30 #[.int .i64 now, .slice A6 n c6, .slice A10 m c10, .int .i64 g.dn, .int .i64 g.ak, .bool g.on, .slice A7 g.nd.length c7, .slice none 0 0] from PO.out.setCell 6 _)
  clear hgr
  generalize W5.setCell ⟨v1.heap.size, 6, none⟩ (.slice A7 g.nd.length c7) = W6 at *
  have P2a := hid (XP2.out.below HVL.out XP2.out.lt)
  obtain ⟨y00, y01, y02, y03, y04, y05, y06, y07, yf0⟩ := P2a.out.cells8
  go_wp2_with fail
  clear P2a y00 y01 y02 y03 y04 y05 y06 y07 yf0
  go_loopw [8, 39] (fun _ i wr => ∃ (j : Nat) (Qo : Option Addr) (cq : Nat) (ej : List Qe), j ≤ nq ∧ i = .int .i64 j ∧ Below v1.heap.size v1 wr ∧ Blk wr v1.heap.size 30 #[.int .i64 now, .slice A6 n c6, .slice A10 m c10, .int .i64 g.dn, .int .i64 g.ak, .bool g.on, .slice A7 g.nd.length c7, .slice Qo j cq] ∧ RcT wr v1.heap.size (now, ns, os) g ej ⟨A6, n, c6, A10, m, c10, A7, c7, Qo, j, cq⟩ ∧ ql ej = (ql es).take j) (fun _ i _ => nq - (intOf i).toNat)
  case atStart => exact ⟨0, none, 0, [], Nat.zero_le _, rfl, HVL.out, PO.out, ⟨RO.out, DO.out, Om.nil _ _ _, fun _ h => (by cases h)⟩, rfl⟩
  case round =>
    clear HVL PO RO DO
    obtain ⟨j, Qo, cq, ej, hj, rfl, h1, h2, h3, h4⟩ := hrel
    have HVL := hid h1; have PO := hid h2; have RT := hid h3; have HQL := hid h4
    clear h1 h2 h3 h4
    by_cases hjn : j < nq
    rotate_left
    ·skip
     obtain rfl : j = nq := by omega
     have hnn : ¬ ((j : Int) < (j : Int)) := by omega
     have HQL2 := hid (show ql ej = ql es by rw [HQL.out, List.take_of_length_le (by unfold ql; rw [List.length_map, hQ3.out]; exact Nat.le_refl _)])
     clear HQL
     have hvr := hid (show v1.heap.size < wr.heap.size from PO.out.lt)
     have P4a := hid ((XP4.out.below HVL.out XP4.out.lt).alloc (.cells #[.int .i64 now, .slice A6 n c6, .slice A10 m c10, .int .i64 g.dn, .int .i64 g.ak, .bool g.on, .slice A7 g.nd.length c7, .slice Qo j cq, .int .i64 0, .int .u64 0, .slice none 0 0] 78))
     have P5a := hid ((XP5.out.below HVL.out XP5.out.lt).alloc (.cells #[.int .i64 now, .slice A6 n c6, .slice A10 m c10, .int .i64 g.dn, .int .i64 g.ak, .bool g.on, .slice A7 g.nd.length c7, .slice Qo j cq, .int .i64 0, .int .u64 0, .slice none 0 0] 78))
     obtain ⟨y00, y01, y02, y03, y04, y05, y06, y07, yf0⟩ := PO.out.cells8
     obtain ⟨y10, yf1⟩ := P4a.out.cells1
     go_upto_region 12 with fail
     clear y00 y01 y02 y03 y04 y05 y06 y07 yf0 y10 yf1
     have hgr := grown_set (World.grownBy.refl (wr.alloc (.cells #[.int .i64 now, .slice A6 n c6, .slice A10 m c10, .int .i64 g.dn, .int .i64 g.ak, .bool g.on, .slice A7 g.nd.length c7, .slice Qo j cq, .int .i64 0, .int .u64 0, .slice none 0 0] 78)) (some (w.heap.size + 1))) 0 (.pointer (some ⟨wr.heap.size, 0, none⟩))
     have PC := hid (show Blk ((wr.alloc (.cells #[.int .i64 now, .slice A6 n c6, .slice A10 m c10, .int .i64 g.dn, .int .i64 g.ak, .bool g.on, .slice A7 g.nd.length c7, .slice Qo j cq, .int .i64 0, .int .u64 0, .slice none 0 0] 78)).setCell ⟨w.heap.size + 1, 0, none⟩ (.pointer (some ⟨wr.heap.size, 0, none⟩))) wr.heap.size 78 (ccells (now, ns, os) g ⟨A6, n, c6, A10, m, c10, A7, c7, Qo, j, cq⟩ 0 0 none 0 0) from (Blk.new wr 78 #[.int .i64 now, .slice A6 n c6, .slice A10 m c10, .int .i64 g.dn, .int .i64 g.ak, .bool g.on, .slice A7 g.nd.length c7, .slice Qo j cq, .int .i64 0, .int .u64 0, .slice none 0 0]).far (p := ⟨w.heap.size + 1, 0, none⟩) (by have := hv.out; have := hvr.out; simp; omega) (.pointer (some ⟨wr.heap.size, 0, none⟩)))
     have RT2 := hid ((RT.out.step (below_box wr (.cells #[.int .i64 now, .slice A6 n c6, .slice A10 m c10, .int .i64 g.dn, .int .i64 g.ak, .bool g.on, .slice A7 g.nd.length c7, .slice Qo j cq, .int .i64 0, .int .u64 0, .slice none 0 0] 78))).keptR P4a.out (by decide) (by decide) (by decide) (by decide) hgr)
     have P4 := hid (show Blk ((wr.alloc (.cells #[.int .i64 now, .slice A6 n c6, .slice A10 m c10, .int .i64 g.dn, .int .i64 g.ak, .bool g.on, .slice A7 g.nd.length c7, .slice Qo j cq, .int .i64 0, .int .u64 0, .slice none 0 0] 78)).setCell ⟨w.heap.size + 1, 0, none⟩ (.pointer (some ⟨wr.heap.size, 0, none⟩))) (w.heap.size + 1) 72 #[ptr wr.heap.size] from P4a.out.setCell 0 _)
     have P5 := hid (P5a.out.far (p := ⟨w.heap.size + 1, 0, none⟩) (by simp) (.pointer (some ⟨wr.heap.size, 0, none⟩)))
     have HB := hid (((below_then XHB.out HVL.out).alloc (below_then XHB.out HVL.out).size (.cells #[.int .i64 now, .slice A6 n c6, .slice A10 m c10, .int .i64 g.dn, .int .i64 g.ak, .bool g.on, .slice A7 g.nd.length c7, .slice Qo j cq, .int .i64 0, .int .u64 0, .slice none 0 0] 78)).setCell (p := ⟨w.heap.size + 1, 0, none⟩) (by simp) (.pointer (some ⟨wr.heap.size, 0, none⟩)))
     clear P4a P5a PO RT HVL hgr
     generalize ((wr.alloc (.cells #[.int .i64 now, .slice A6 n c6, .slice A10 m c10, .int .i64 g.dn, .int .i64 g.ak, .bool g.on, .slice A7 g.nd.length c7, .slice Qo j cq, .int .i64 0, .int .u64 0, .slice none 0 0] 78)).setCell ⟨w.heap.size + 1, 0, none⟩ (.pointer (some ⟨wr.heap.size, 0, none⟩))) = W5 at *
     have hEn := HF.out
     obtain ⟨y00, yf0⟩ := P4.out.cells1
     go_wp2_with fail
     clear y00 yf0 hEn
     rw [HF.out (#[ptr wr.heap.size] ++ caps) W5]
     rw [Oper.upon_enter]
     refine (HDO.out HOK.out W5 v1.heap.size wr.heap.size ⟨A6, n, c6, A10, m, c10, A7, c7, Qo, j, cq⟩ ej (by have := hv.out; omega) (by have := hvr.out; omega) HB.out PC.out RT2.out HQL2.out).mono ?_
     rintro x W6 ⟨hb, ⟨rfl, hy⟩ | ⟨c, rfl, hno⟩⟩
     ·skip
      have P4a := hid (P4.out.keptP hb (by rintro (h | h); exact absurd (HQ.out _ h) (by omega); exact absurd h (by have := hv.out; omega)))
      have P5a := hid (P5.out.keptP hb (by rintro (h | h); exact absurd (HQ.out _ h) (by omega); exact absurd h (by have := hv.out; omega)))
      have HBa := hid (GrownP.cut HB.out hb (show w.heap.size ≤ v1.heap.size by have := hv.out; omega))
      have HYa := hid hy
      clear hy hb P4 P5 PC HB HDO RT2
      have c4 := P4a.out.cell 0
      have f4 := P4a.out.frozen 0
      have c5 := P5a.out.cell 0
      have f5 := P5a.out.frozen 0
      go_upto_region 13 with fail
      go_wp2_with fail
      clear c4 f4 c5 f5
      have P4b := hid ((P4a.out.setCell 0 (ptr wr.heap.size)).far (p := ⟨w.heap.size + 1 + 1, 0, none⟩) (by simp) (.int .i64 0))
      have P5b := hid ((P5a.out.far (p := ⟨w.heap.size + 1, 0, none⟩) (by simp) (ptr wr.heap.size)).setCell 0 (.int .i64 0))
      have HBb := hid ((HBa.out.setCell (p := ⟨w.heap.size + 1, 0, none⟩) (by simp) (ptr wr.heap.size)).setCell (p := ⟨w.heap.size + 1 + 1, 0, none⟩) (by simp; omega) (.int .i64 0))
      have HYb := hid (HST.out _ _ _ ⟨w.heap.size + 1 + 1, 0, none⟩ (.int .i64 0) (HST.out _ _ _ ⟨w.heap.size + 1, 0, none⟩ (ptr wr.heap.size) HYa.out (by simp) (by have := hv.out; simp; omega)) (by simp; omega) (by have := hv.out; simp; omega))
      clear P4a P5a HBa HYa
      generalize (W6.setCell ⟨w.heap.size + 1, 0, none⟩ (ptr wr.heap.size)).setCell ⟨w.heap.size + 1 + 1, 0, none⟩ (.int .i64 0) = W7 at *
      refine leaves_cons (f := 71) (args := #[ptr (w.heap.size + 1), ptr (w.heap.size + 1 + 1)]) (by simp) (by simp [go_sem]) ?_
      refine (rcatch_idle _ _ _).mono ?_
      rintro x u' w'' ⟨rfl, rfl, rfl⟩
      have c4 := P4b.out.cell 0
      have c5 := P5b.out.cell 0
      simp [Leaves, settle, results, Tryz.results33, go_sem, c4, c5]
      exact ⟨HBb.out, .inl ⟨_, rfl, _, by have := hv.out; omega, by have := hvr.out; omega, HYb.out⟩⟩
     ·skip
      have P4a := hid (P4.out.keptP hb (by rintro (h | h); exact absurd (HQ.out _ h) (by omega); exact absurd h (by have := hv.out; omega)))
      have P5a := hid (P5.out.keptP hb (by rintro (h | h); exact absurd (HQ.out _ h) (by omega); exact absurd h (by have := hv.out; omega)))
      have HBa := hid (GrownP.cut HB.out hb (show w.heap.size ≤ v1.heap.size by have := hv.out; omega))
      have HNOa := hid hno
      clear hno hb P4 P5 PC HB HDO RT2
      refine leaves_cons (f := 71) (args := #[ptr (w.heap.size + 1), ptr (w.heap.size + 1 + 1)]) (by simp) (by simp [go_sem]) ?_
      refine (rcatch_panicking (w.heap.size + 1) (w.heap.size + 1 + 1) w.heap.size c _ _ W6 P4a.out P5a.out (by omega) (by omega) HBa.out.size).mono ?_
      rintro x u' w'' ⟨rfl, rfl, gn, hgn, hbb, hbn, hb4, hb5⟩
      have HN := hid (HSN.out _ _ _ HNOa.out hbb)
      have c4 := hb4.cell 0
      have c5 := hb5.cell 0
      simp [Leaves, settle, results, Tryz.results33, go_sem, c4, c5]
      exact ⟨HBa.out.then_ hbb, .inr ⟨_, _, rfl, HN.out, by have := HBa.out.size; omega, hbn⟩⟩
    have hji : (j : Int) < (nq : Int) := by omega
    obtain ⟨b, off, hbq, _, hbh, hc⟩ := XHR.out.qs.row (by dsimp only; omega)
    obtain ⟨x, hx⟩ : ∃ x, x = es[j]?.getD zQe := ⟨_, rfl⟩
    have c0 := hc j hjn 0 (by omega)
    have c1 := hc j hjn 1 (by omega)
    rw [← hx] at c0 c1
    have HQE := hid (XHR.out.qe x (by rw [hx, List.getElem?_eq_getElem (by rw [hQ3.out]; exact hjn)]; exact List.getElem_mem _))
    have HXQ := hid (show (ql es).take (j + 1) = (ql es).take j ++ [(x.l, x.o)] by
      have hlt : j < es.length := by rw [hQ3.out]; exact hjn
      rw [List.take_succ_eq_append_getElem (by unfold ql; rw [List.length_map]; exact hlt), hx, List.getElem?_eq_getElem hlt]; simp [ql])
    obtain ⟨xl, xo, xA, xn, xc⟩ := x
    have f0 : wr.cell? ⟨b, off + j * 2, none⟩ = some (.slice xA xn xc) := by rw [Nat.add_zero] at c0; exact (HVL.out.cell (p := ⟨b, off + j * 2, none⟩) (by show b < _; omega)).trans c0
    have f1 : wr.cell? ⟨b, off + j * 2 + 1, none⟩ = some (.int .u64 xo) := (HVL.out.cell (p := ⟨b, off + j * 2 + 1, none⟩) (by show b < _; omega)).trans c1
    clear hc c0 c1 hx hbh
    dsimp only at hbq
    subst hbq
    have HQB := hid (show ∀ a, Qo = some a → a.block < wr.heap.size from fun a ha => by obtain ⟨_, cs, q⟩ := RT.out.qs.blk a ha; exact q.lt)
    have bx := below_box wr (.cells #[.slice xA xn xc, .int .u64 xo] 58)
    replace PO := hid (PO.out.step bx); replace RT := hid (RT.out.step bx); replace HVL := hid (below_then HVL.out bx)
    clear bx
    have PT := hid (Blk.new wr 58 #[.slice xA xn xc, .int .u64 xo])
    go_upto_region 9 with fail
    clear f0 f1
    have hzr := hid (show (wr.alloc (.cells #[.slice xA xn xc, .int .u64 xo] 58)).heap.size = wr.heap.size + 1 by simp)
    generalize wr.alloc (.cells #[.slice xA xn xc, .int .u64 xo] 58) = W7 at *
    have HVW := hid (show v1.heap.size ≤ wr.heap.size by have := hzr.out; have := PO.out.lt; have := HVL.out.size; omega)
    obtain ⟨i0, hi0, hz00, hz01, hz02⟩ := info_parts info_que
    have bx := (Below.refl W7.heap.size W7).drew
    replace PO := hid (PO.out.step bx); replace RT := hid (RT.out.step bx); replace PT := hid (PT.out.step bx); replace HVL := hid (below_then HVL.out bx)
    clear bx
    have hszd := hid (show W7.drew.heap.size = W7.heap.size from rfl)
    refine wp_region_noPanic ?_
    refine wp_region_held_tail 10 (fun W' : World => W'.cell? ⟨v1.heap.size, 7, none⟩ = some (.slice Qo j cq) ∧ W'.cell? ⟨wr.heap.size, 0, none⟩ = some (.slice xA xn xc) ∧ W'.cell? ⟨wr.heap.size, 1, none⟩ = some (.int .u64 xo)) #[false, false, false, false, false, false, false, false, false, false, false, false] (by kernel_rfl) ⟨PO.out.cells8.2.2.2.2.2.2.2.1, PT.out.cells2.1, PT.out.cells2.2.1⟩ (by kernel_rfl) (by kernel_rfl) (fun hS => ?_)
    generalize W7.drew = Wd at *
    refine tkT 0 hS ?_
    refine tkT 1 hS ?_
    refine tkT 2 hS ?_
    refine tkT 3 hS ?_
    refine tkT 5 hS ?_
    refine tkT 6 hS ?_
    refine rdyT [4] (csyT (fun K hK => ?_) AllReadyT.nil)
    go_simp
    refine (clone_cb xA xn xc 0 xl _ ((HQE.out.1.below (HVL.out) (Nat.le_refl _)).mono (Nat.le_refl _) (HVL.out).size) (by have := HQE.out.2.2.1; dsimp only at this; omega)).mono ?_
    rintro e w4 ⟨A4, c4, rfl, ho, hb⟩
    have hsz0 := hid (show Wd.heap.size ≤ w4.heap.size from hb.size)
    replace PO := hid (PO.out.step hb); replace RT := hid (RT.out.step hb); replace PT := hid (PT.out.step hb); replace HVL := hid (below_then HVL.out hb)
    clear hb
    have O4 := hid (ho.mono (show v1.heap.size ≤ _ by have := HVW.out; have := hzr.out; have := hszd.out; omega))
    clear ho
    go_wp2_with fail
    clear hS
    refine kyT hK ⟨PO.out.cells8.2.2.2.2.2.2.2.1, PT.out.cells2.1, PT.out.cells2.2.1⟩ fun hS => ?_
    clear hK K
    refine tkT 7 hS ?_
    refine rdyT [8] (csyT (fun K hK => ?_) AllReadyT.nil)
    go_simp
    refine named_alloc ?_
    intro Wa8 hbk hb hsz
    have hsz1 := hid hsz
    replace PO := hid (PO.out.step hb); replace RT := hid (RT.out.step hb); replace PT := hid (PT.out.step hb); replace O4 := hid (O4.out.step hb); replace HVL := hid (below_then HVL.out hb)
    have PL := hid hbk
    clear hb hbk hsz
    clear hS
    refine kyT hK ⟨PO.out.cells8.2.2.2.2.2.2.2.1, PT.out.cells2.1, PT.out.cells2.2.1⟩ fun hS => ?_
    clear hK K
    refine rdyT [9] (csyT (fun K hK => ?_) AllReadyT.nil)
    refine step_appm 2 encQ zQe _ rfl _ _ 28 rfl v1.heap.size 58 i0 _ 32 Tryz.underlying28 hi0 hz00 hz01 hz02 rfl (by omega) Qo j cq ej rfl RT.out.qs 0 _ (some ⟨w4.heap.size, 0, none⟩) 1 1 [⟨xl, xo, A4, xn, c4⟩] rfl (Sm.oneB PL.out (fun k hk => by match k, hk with | 0, _ => rfl | 1, _ => rfl)) encQ_one (by have := XHR.out.ql; dsimp only at this; simp only [maxLen]; omega) (by have := XHR.out.ql; dsimp only at this; omega) HVL.out.size ?_
    intro A9 c9 Wc9 hown hgr hat
    have RT9 := hid (show RcT Wc9 v1.heap.size (now, ns, os) g (ej ++ [⟨xl, xo, A4, xn, c4⟩]) ⟨A6, n, c6, A10, m, c10, A7, c7, A9, j + 1, c9⟩ from
      ⟨RT.out.ro.keptM' RT.out.qs (by decide) hgr, RT.out.gd.keptM RT.out.qs (by decide) hgr, hown, fun y hy => by
        rcases List.mem_append.1 hy with hy | hy
        · exact ⟨(RT.out.qe y hy).1.keptM RT.out.qs (by decide) hgr, (RT.out.qe y hy).2⟩
        · obtain rfl := List.mem_singleton.1 hy
          exact ⟨O4.out.keptM RT.out.qs (by decide) hgr, HQE.out.2.2.1⟩⟩)
    replace PO := hid (PO.out.keptM RT.out.qs (by decide) hgr)
    replace PT := hid (PT.out.grown hgr (fun e => by obtain ⟨a, ha, hb⟩ := own_addr e.symm; have := HQB.out a ha; omega))
    replace HVL := hid (HVL.out.grown hgr HVL.out.size (fun r e => RT.out.qs.row_ge r e))
    clear hown hgr hat PL RT O4
    clear hS
    refine kyT hK ⟨PO.out.cells8.2.2.2.2.2.2.2.1, PT.out.cells2.1, PT.out.cells2.2.1⟩ fun hS => ?_
    clear hK K
    refine wpAnyT_done (by kernel_rfl) ?_
    simp only [List.drop_succ_cons, List.drop_zero]
    clear hS
    obtain ⟨y00, y01, y02, y03, y04, y05, y06, y07, yf0⟩ := PO.out.cells8
    go_wp2_with fail
    refine NoPanic.normal ?_
    clear y00 y01 y02 y03 y04 y05 y06 y07 yf0
    have hgr := grown_set (World.grownBy.refl Wc9 (some v1.heap.size)) 7 (.slice A9 (j + 1) c9)
    have RTn := hid (RT9.out.keptR PO.out (by decide) (by decide) (by decide) (by decide) hgr)
    replace HVL := hid (HVL.out.grown hgr HVL.out.size (fun r e => by cases e; exact Nat.le_refl _))
    replace PO := hid (show Blk (Wc9.setCell ⟨v1.heap.size, 7, none⟩ (.slice A9 (j + 1) c9)) v1.heap.size 30 #[.int .i64 now, .slice A6 n c6, .slice A10 m c10, .int .i64 g.dn, .int .i64 g.ak, .bool g.on, .slice A7 g.nd.length c7, .slice A9 (j + 1) c9] from PO.out.setCell 7 _)
    clear hgr RT9
    generalize Wc9.setCell ⟨v1.heap.size, 7, none⟩ (.slice A9 (j + 1) c9) = Wn at *
    have hw1 : IntKind.i64.wrap ((j : Int) + 1) = (j : Int) + 1 := by rw [IntKind.wrap_i64]; have := XHR.out.ql; dsimp only at this; omega
    go_wp2_with fail
    go_roundw
    case rel => exact ⟨j + 1, A9, c9, _, by omega, by go_num, HVL.out, PO.out, RTn.out, by rw [HXQ.out, ← HQL.out]; simp [ql]⟩
    case measure => simp [intOf]; omega
end Go.Proofs.YtfipdoofgbjbjaaGreat

/- package rcu: sure; what a cpu holds. No condition but sizes. -/
namespace Go.Proofs.YtfipdoofgbjbjaaGreat
open Go.RowKit
attribute [local go_sem] Oper.semAt_some
set_option maxRecDepth 100000 in
set_option maxHeartbeats 2000000 in
theorem sureQ_yes (A : Option Addr) (n k : Nat) (o : Int) (w : World) : Calls Tryz.prog 85 #[.agg #[.slice A n k, .int .u64 o], .int .i64 0] w fun x w' => x = .returned (.agg #[.slice A n k, .int .u64 o]) ∧ Below w.heap.size w w' := by
  have HB := hid (Below.refl w.heap.size w)
  have bx := below_box w (.cells #[.slice A n k, .int .u64 o] 58)
  replace HB := hid (below_then HB.out bx)
  clear bx
  have PX := hid (Blk.new w 58 #[.slice A n k, .int .u64 o])
  have bx := below_box (w.alloc (.cells #[.slice A n k, .int .u64 o] 58)) (.cells #[.slice none 0 0, .int .u64 0] 58)
  replace PX := hid (PX.out.step bx); replace HB := hid (below_then HB.out bx)
  clear bx
  have PZ := hid (Blk.new2 w 58 #[.slice none 0 0, .int .u64 0] (.cells #[.slice A n k, .int .u64 o] 58))
  go_enter Tryz.func85, Tryz.ntmps85
  go_wp2_with fail
  have hz0 := hid (show ((w.alloc (.cells #[.slice A n k, .int .u64 o] 58)).alloc (.cells #[.slice none 0 0, .int .u64 0] 58)).heap.size = w.heap.size + 2 by simp)
  generalize (w.alloc (.cells #[.slice A n k, .int .u64 o] 58)).alloc (.cells #[.slice none 0 0, .int .u64 0] 58) = W0 at *
  refine (rneed_yes 0 _).mono ?_
  rintro e v1 ⟨rfl, rfl⟩
  obtain ⟨y00, y01, yf0⟩ := PX.out.cells2
  obtain ⟨y10, y11, yf1⟩ := PZ.out.cells2
  go_wp2_with fail
  clear y00 y01 yf0 y10 y11 yf1
  have Z4 := hid (show Blk ((v1.setCell ⟨w.heap.size + 1, 0, none⟩ (.slice A n k)).setCell ⟨w.heap.size + 1, 1, none⟩ (.int .u64 o)) (w.heap.size + 1) 58 #[.slice A n k, .int .u64 o] from ((PZ.out.setCell 0 (.slice A n k)).setCell 1 (.int .u64 o)))
  obtain ⟨y00, y01, yf0⟩ := Z4.out.cells2
  exact bodyPost_ret (v := .agg #[.slice A n k, .int .u64 o]) (by simp [results, Tryz.results85, go_sem, y00, y01]) rfl ⟨rfl, ((HB.out.setCell (p := ⟨w.heap.size + 1, 0, none⟩) (by simp) (.slice A n k)).setCell (p := ⟨w.heap.size + 1, 1, none⟩) (by simp) (.int .u64 o))⟩
set_option maxRecDepth 100000 in
set_option maxHeartbeats 2000000 in
theorem sureQ_no (A : Option Addr) (n k : Nat) (o : Int) (c : Int) (w : World) (hc : c ≠ 0) : Calls Tryz.prog 85 #[.agg #[.slice A n k, .int .u64 o], .int .i64 c] w fun x w' => x = leaves c ∧ Below w.heap.size w w' := by
  have d1 : (c == 0) = false := by simpa using hc
  have HB := hid (Below.refl w.heap.size w)
  clear hc
  have bx := below_box w (.cells #[.slice A n k, .int .u64 o] 58)
  replace HB := hid (below_then HB.out bx)
  clear bx
  have bx := below_box (w.alloc (.cells #[.slice A n k, .int .u64 o] 58)) (.cells #[.slice none 0 0, .int .u64 0] 58)
  replace HB := hid (below_then HB.out bx)
  clear bx
  go_enter Tryz.func85, Tryz.ntmps85
  go_wp2_with fail
  refine (rneed_no c _).mono ?_
  rintro e v1 ⟨rfl, rfl⟩
  unfold leaves
  go_wp2_with fail
  exact ⟨rfl, rfl, HB.out⟩
set_option maxRecDepth 100000 in
set_option maxHeartbeats 2000000 in
theorem sureR_yes (now : Int) (A : Option Addr) (n k : Nat) (B : Option Addr) (m d : Nat) (w : World) : Calls Tryz.prog 114 #[.agg #[.int .i64 now, .slice A n k, .slice B m d], .int .i64 0] w fun x w' => x = .returned (.agg #[.int .i64 now, .slice A n k, .slice B m d]) ∧ Below w.heap.size w w' := by
  have HB := hid (Below.refl w.heap.size w)
  have bx := below_box w (.cells #[.int .i64 now, .slice A n k, .slice B m d] 24)
  replace HB := hid (below_then HB.out bx)
  clear bx
  have PX := hid (Blk.new w 24 #[.int .i64 now, .slice A n k, .slice B m d])
  have bx := below_box (w.alloc (.cells #[.int .i64 now, .slice A n k, .slice B m d] 24)) (.cells #[.int .i64 0, .slice none 0 0, .slice none 0 0] 24)
  replace PX := hid (PX.out.step bx); replace HB := hid (below_then HB.out bx)
  clear bx
  have PZ := hid (Blk.new2 w 24 #[.int .i64 0, .slice none 0 0, .slice none 0 0] (.cells #[.int .i64 now, .slice A n k, .slice B m d] 24))
  go_enter Tryz.func114, Tryz.ntmps114
  go_wp2_with fail
  have hz0 := hid (show ((w.alloc (.cells #[.int .i64 now, .slice A n k, .slice B m d] 24)).alloc (.cells #[.int .i64 0, .slice none 0 0, .slice none 0 0] 24)).heap.size = w.heap.size + 2 by simp)
  generalize (w.alloc (.cells #[.int .i64 now, .slice A n k, .slice B m d] 24)).alloc (.cells #[.int .i64 0, .slice none 0 0, .slice none 0 0] 24) = W0 at *
  refine (rneed_yes 0 _).mono ?_
  rintro e v1 ⟨rfl, rfl⟩
  obtain ⟨y00, y01, y02, yf0⟩ := PX.out.cells3
  obtain ⟨y10, y11, y12, yf1⟩ := PZ.out.cells3
  go_wp2_with fail
  clear y00 y01 y02 yf0 y10 y11 y12 yf1
  have Z4 := hid (show Blk (((v1.setCell ⟨w.heap.size + 1, 0, none⟩ (.int .i64 now)).setCell ⟨w.heap.size + 1, 1, none⟩ (.slice A n k)).setCell ⟨w.heap.size + 1, 2, none⟩ (.slice B m d)) (w.heap.size + 1) 24 #[.int .i64 now, .slice A n k, .slice B m d] from (((PZ.out.setCell 0 (.int .i64 now)).setCell 1 (.slice A n k)).setCell 2 (.slice B m d)))
  obtain ⟨y00, y01, y02, yf0⟩ := Z4.out.cells3
  exact bodyPost_ret (v := .agg #[.int .i64 now, .slice A n k, .slice B m d]) (by simp [results, Tryz.results114, go_sem, y00, y01, y02]) rfl ⟨rfl, (((HB.out.setCell (p := ⟨w.heap.size + 1, 0, none⟩) (by simp) (.int .i64 now)).setCell (p := ⟨w.heap.size + 1, 1, none⟩) (by simp) (.slice A n k)).setCell (p := ⟨w.heap.size + 1, 2, none⟩) (by simp) (.slice B m d))⟩
set_option maxRecDepth 100000 in
set_option maxHeartbeats 2000000 in
theorem sureR_no (now : Int) (A : Option Addr) (n k : Nat) (B : Option Addr) (m d : Nat) (c : Int) (w : World) (hc : c ≠ 0) : Calls Tryz.prog 114 #[.agg #[.int .i64 now, .slice A n k, .slice B m d], .int .i64 c] w fun x w' => x = leaves c ∧ Below w.heap.size w w' := by
  have d1 : (c == 0) = false := by simpa using hc
  have HB := hid (Below.refl w.heap.size w)
  clear hc
  have bx := below_box w (.cells #[.int .i64 now, .slice A n k, .slice B m d] 24)
  replace HB := hid (below_then HB.out bx)
  clear bx
  have bx := below_box (w.alloc (.cells #[.int .i64 now, .slice A n k, .slice B m d] 24)) (.cells #[.int .i64 0, .slice none 0 0, .slice none 0 0] 24)
  replace HB := hid (below_then HB.out bx)
  clear bx
  go_enter Tryz.func114, Tryz.ntmps114
  go_wp2_with fail
  refine (rneed_no c _).mono ?_
  rintro e v1 ⟨rfl, rfl⟩
  unfold leaves
  go_wp2_with fail
  exact ⟨rfl, rfl, HB.out⟩
set_option maxRecDepth 100000 in
set_option maxHeartbeats 2000000 in
theorem sureG_yes (dn ak : Int) (on : Bool) (D : Option Addr) (n k : Nat) (w : World) : Calls Tryz.prog 82 #[.agg #[.int .i64 dn, .int .i64 ak, .bool on, .slice D n k], .int .i64 0] w fun x w' => x = .returned (.agg #[.int .i64 dn, .int .i64 ak, .bool on, .slice D n k]) ∧ Below w.heap.size w w' := by
  have HB := hid (Below.refl w.heap.size w)
  have bx := below_box w (.cells #[.int .i64 dn, .int .i64 ak, .bool on, .slice D n k] 27)
  replace HB := hid (below_then HB.out bx)
  clear bx
  have PX := hid (Blk.new w 27 #[.int .i64 dn, .int .i64 ak, .bool on, .slice D n k])
  have bx := below_box (w.alloc (.cells #[.int .i64 dn, .int .i64 ak, .bool on, .slice D n k] 27)) (.cells #[.int .i64 0, .int .i64 0, .bool false, .slice none 0 0] 27)
  replace PX := hid (PX.out.step bx); replace HB := hid (below_then HB.out bx)
  clear bx
  have PZ := hid (Blk.new2 w 27 #[.int .i64 0, .int .i64 0, .bool false, .slice none 0 0] (.cells #[.int .i64 dn, .int .i64 ak, .bool on, .slice D n k] 27))
  go_enter Tryz.func82, Tryz.ntmps82
  go_wp2_with fail
  have hz0 := hid (show ((w.alloc (.cells #[.int .i64 dn, .int .i64 ak, .bool on, .slice D n k] 27)).alloc (.cells #[.int .i64 0, .int .i64 0, .bool false, .slice none 0 0] 27)).heap.size = w.heap.size + 2 by simp)
  generalize (w.alloc (.cells #[.int .i64 dn, .int .i64 ak, .bool on, .slice D n k] 27)).alloc (.cells #[.int .i64 0, .int .i64 0, .bool false, .slice none 0 0] 27) = W0 at *
  refine (rneed_yes 0 _).mono ?_
  rintro e v1 ⟨rfl, rfl⟩
  obtain ⟨y00, y01, y02, y03, yf0⟩ := PX.out.cells4
  obtain ⟨y10, y11, y12, y13, yf1⟩ := PZ.out.cells4
  go_wp2_with fail
  clear y00 y01 y02 y03 yf0 y10 y11 y12 y13 yf1
  have Z4 := hid (show Blk ((((v1.setCell ⟨w.heap.size + 1, 0, none⟩ (.int .i64 dn)).setCell ⟨w.heap.size + 1, 1, none⟩ (.int .i64 ak)).setCell ⟨w.heap.size + 1, 2, none⟩ (.bool on)).setCell ⟨w.heap.size + 1, 3, none⟩ (.slice D n k)) (w.heap.size + 1) 27 #[.int .i64 dn, .int .i64 ak, .bool on, .slice D n k] from ((((PZ.out.setCell 0 (.int .i64 dn)).setCell 1 (.int .i64 ak)).setCell 2 (.bool on)).setCell 3 (.slice D n k)))
  obtain ⟨y00, y01, y02, y03, yf0⟩ := Z4.out.cells4
  exact bodyPost_ret (v := .agg #[.int .i64 dn, .int .i64 ak, .bool on, .slice D n k]) (by simp [results, Tryz.results82, go_sem, y00, y01, y02, y03]) rfl ⟨rfl, ((((HB.out.setCell (p := ⟨w.heap.size + 1, 0, none⟩) (by simp) (.int .i64 dn)).setCell (p := ⟨w.heap.size + 1, 1, none⟩) (by simp) (.int .i64 ak)).setCell (p := ⟨w.heap.size + 1, 2, none⟩) (by simp) (.bool on)).setCell (p := ⟨w.heap.size + 1, 3, none⟩) (by simp) (.slice D n k))⟩
/-- the blocks that a cpu's methods write -/
def CS (gc : Nat) (Q R : Option Addr) (i : Nat) : Prop := i = gc ∨ (∃ b, Q = some b ∧ i = b.block) ∨ ∃ b, R = some b ∧ i = b.block
theorem Qown.keptP {w w' : World} {lo n : Nat} {A : Option Addr} {xs : List Cb} {p : Nat → Prop} (h : Qown w lo A n xs) (k : GrownP p w w') (hp : 0 < n → ∀ a, A = some a → ¬ p a.block) : Qown w' lo A n xs := by
  rcases Nat.eq_zero_or_pos n with h0 | h0
  · subst h0
    have hl := h.sm.len
    exact ⟨⟨hl, fun hn => absurd hn (by omega)⟩, fun hn => absurd hn (by omega)⟩
  · obtain ⟨b, off, rfl, h1, h2, hc⟩ := h.sm.row h0
    have hb : w'.heap[b]? = w.heap[b]? := k.block b h2 (hp h0 _ rfl)
    refine ⟨⟨h.sm.len, fun _ => ⟨b, off, rfl, h1, Nat.lt_of_lt_of_le h2 k.size, fun i hi j hj => ?_⟩⟩, fun hn b' off' e i => ?_⟩
    · rw [← hc i hi j hj]; unfold World.cell?; rw [hb]
    · cases e
      rw [← h.free hn b off rfl i]; unfold World.frozen?; rw [hb]
/-- a queue whose row a cpu owns -/
def QeO (w : World) (lo : Nat) (S : Nat → Prop) (x : Qe) : Prop := Qown w lo x.A x.n x.l ∧ x.n ≤ x.c ∧ x.n ≤ 1000 ∧ (0 ≤ x.o ∧ x.o ≤ 18446744073709551615) ∧ (0 < x.n → ∀ a, x.A = some a → ¬ S a.block)
/-- what a cpu holds -/
structure CA (w : World) (l gc : Nat) (s : St) (g : Gr) (es : List Qe) (is what : Int) (ran : List Int) (a : Ra) (R : Option Addr) (nr kr : Nat) : Prop where
  box : Blk w gc 78 (ccells s g a is what R nr kr)
  ro : Rown w l a.A a.n a.k a.B a.m a.d s.2.1 s.2.2
  gd : Ow blv w l 4 a.D g.nd.length a.kd g.nd
  qs : Om 2 encQ w l 58 a.Q a.nq a.kq es
  rn : Ow u64v w l 35 R nr kr ran
  qe : ∀ x ∈ es, QeO w l (CS gc a.Q R) x
  lg : l ≤ gc
section
variable {w w' : World} {l gc : Nat} {s : St} {g : Gr} {es : List Qe} {is what : Int} {ran : List Int} {a : Ra} {R : Option Addr} {nr kr : Nat}
theorem QeO.step {S : Nat → Prop} {x : Qe} {lo : Nat} (h : QeO w lo S x) (hb : Below w.heap.size w w') : QeO w' lo S x := ⟨h.1.step hb, h.2⟩
theorem CA.step (h : CA w l gc s g es is what ran a R nr kr) (hb : Below w.heap.size w w') : CA w' l gc s g es is what ran a R nr kr :=
  ⟨h.box.step hb, h.ro.step hb, h.gd.step hb, h.qs.step hb, h.rn.step hb, fun x hx => (h.qe x hx).step hb, h.lg⟩
/-- a box that is new to it is turned -/
theorem CA.turn (h : CA w l gc s g es is what ran a R nr kr) {q : Nat} {t : TypeId} {cs : Array Value} (hb : Blk w q t cs) (h1 : t ≠ 78) (h2 : t ≠ 3) (h3 : t ≠ 4) (h4 : t ≠ 35)
    (hq : ∀ b, a.Q = some b → b.block ≠ q) (hf : ∀ x ∈ es, 0 < x.n → ∀ b, x.A = some b → b.block ≠ q) (hg : w.grownBy w' (some q)) : CA w' l gc s g es is what ran a R nr kr := by
  refine ⟨h.box.grown hg (fun e => ?_), h.ro.keptR hb h2 hg, h.gd.keptR hb h3 hg, h.qs.keptG hg (fun b hb e => hq b hb (Option.some.inj e)), h.rn.keptR hb h4 hg, fun x hx => ?_, h.lg⟩
  · have e1 := Option.some.inj e
    subst e1
    have := h.box
    unfold Blk at this hb
    rw [hb] at this
    simp at this
    exact h1 this.2
  · obtain ⟨k1, k2⟩ := h.qe x hx
    exact ⟨k1.keptP (GrownP.ofGrown (p := fun i => i = q) hg rfl) (fun hn b hb e => hf x hx hn b hb e), k2⟩
theorem CA.rcr (h : CA w l gc s g es is what ran a R nr kr) (gl : g.nd.length ≤ 1000) (gi : g.dn ≤ 9223372036854775807 ∧ g.ak ≤ 9223372036854775807) (ql : a.nq ≤ 1000) : RcR w s g es a :=
  ⟨h.ro.rds, (h.gd.sl (d := false)).mono (Nat.zero_le _) (Nat.le_refl _), gl, gi, (h.qs.sm (d := zQe)).mono (Nat.zero_le _) (Nat.le_refl _), ql, fun x hx => ⟨((h.qe x hx).1.mono (Nat.zero_le _)).sm, (h.qe x hx).2.1, (h.qe x hx).2.2.1, (h.qe x hx).2.2.2.1.1, (h.qe x hx).2.2.2.1.2⟩⟩
end
/-- what tries lays is what a cpu holds -/
theorem RcT.ca {w : World} {l gc : Nat} {s : St} {g : Gr} {es : List Qe} {a : Ra} (h : RcT w l s g es a) (hb : Blk w gc 78 (ccells s g a 0 0 none 0 0)) (hl : l ≤ gc) (ho : ∀ x ∈ es, 0 ≤ x.o ∧ x.o ≤ 18446744073709551615) : CA w l gc s g es 0 0 [] a none 0 0 := by
  refine ⟨hb, h.ro, h.gd, h.qs, Ow.nil _ _ _, fun x hx => ⟨Qown.ofOm (h.qe x hx).1, (h.qe x hx).1.cap.1, (h.qe x hx).2, ho x hx, fun hn b hbx hs => ?_⟩, hl⟩
  obtain ⟨_, cs, hbb⟩ := (h.qe x hx).1.blk b hbx
  rcases hs with e | ⟨q, hq, e⟩ | ⟨q, hq, _⟩
  · exact (h.qe x hx).1.ne_blk hb (by decide) b hbx e
  · exact h.qs.ne_blk hbb (by decide) q hq e.symm
  · cases hq
end Go.Proofs.YtfipdoofgbjbjaaGreat

/- package rcu: enter, leave. No condition but sizes. -/
namespace Go.Proofs.YtfipdoofgbjbjaaGreat
open Go.RowKit
attribute [local go_sem] Oper.semAt_some
theorem Om.stored2 {α : Type} {enc : α → Nat → Value} {w : World} {lo : Nat} {e : TypeId} {g n c : Nat} {xs : List α} (h : Om 2 enc w lo e (some ⟨g, 0, none⟩) n c xs) (i : Nat) (s : α) (hi : i < n) :
    Om 2 enc ((w.setCell ⟨g, i * 2, none⟩ (enc s 0)).setCell ⟨g, i * 2 + 1, none⟩ (enc s 1)) lo e (some ⟨g, 0, none⟩) n c (xs.set i s) := by
  refine ⟨by rw [List.length_set, h.len], ?_⟩
  rw [flat_set2, if_pos (by rw [h.len]; exact hi)]
  exact ((h.own.stored (i * 2) (enc s 0)).1.stored (i * 2 + 1) (enc s 1)).1
section
variable {w w' : World} {l gc : Nat} {s : St} {g : Gr} {es : List Qe} {is what : Int} {ran : List Int} {a : Ra} {R : Option Addr} {nr kr : Nat}
/-- its box is stored to -/
theorem CA.stored (h : CA w l gc s g es is what ran a R nr kr) (hg : w.grownBy w' (some gc)) {s' : St} {g' : Gr} {a' : Ra} {is' what' : Int} (hb : Blk w' gc 78 (ccells s' g' a' is' what' R nr kr)) (hro : Rown w l a'.A a'.n a'.k a'.B a'.m a'.d s'.2.1 s'.2.2)
    (hgd : Ow blv w l 4 a'.D g'.nd.length a'.kd g'.nd) (h1 : a'.Q = a.Q) (h2 : a'.nq = a.nq) (h3 : a'.kq = a.kq) : CA w' l gc s' g' es is' what' ran a' R nr kr := by
  refine ⟨hb, hro.keptR h.box (by decide) hg, hgd.keptR h.box (by decide) hg, by rw [h1, h2, h3]; exact h.qs.keptR h.box (by decide) hg, h.rn.keptR h.box (by decide) hg, fun x hx => ?_, h.lg⟩
  rw [h1]
  obtain ⟨k1, k2, k3, k4, k5⟩ := h.qe x hx
  exact ⟨k1.keptP (GrownP.ofGrown (p := fun i => i = gc) hg rfl) (fun hn b hb e => k5 hn b hb (.inl e)), k2, k3, k4, k5⟩
/-- a queue is stored -/
theorem CA.put (h : CA w l gc s g es is what ran a R nr kr) {gQ k : Nat} (hQ : a.Q = some ⟨gQ, 0, none⟩) (hk : k < a.nq) (x : Qe) (hx : QeO w l (CS gc a.Q R) x) :
    CA ((w.setCell ⟨gQ, k * 2, none⟩ (encQ x 0)).setCell ⟨gQ, k * 2 + 1, none⟩ (encQ x 1)) l gc s g (es.set k x) is what ran a R nr kr := by
  have hg : w.grownBy ((w.setCell ⟨gQ, k * 2, none⟩ (encQ x 0)).setCell ⟨gQ, k * 2 + 1, none⟩ (encQ x 1)) (some gQ) := grown_set (grown_set (World.grownBy.refl _ _) _ _) _ _
  obtain ⟨_, cs, hbq⟩ := h.qs.blk _ hQ
  have hst : ∀ y, QeO w l (CS gc a.Q R) y → QeO ((w.setCell ⟨gQ, k * 2, none⟩ (encQ x 0)).setCell ⟨gQ, k * 2 + 1, none⟩ (encQ x 1)) l (CS gc a.Q R) y := fun y ⟨k1, k2, k3, k4, k5⟩ =>
    ⟨k1.keptP (GrownP.ofGrown (p := fun i => i = gQ) hg rfl) (fun hn b hb e => k5 hn b hb (.inr (.inl ⟨_, hQ, e⟩))), k2, k3, k4, k5⟩
  refine ⟨h.box.grown hg (fun e => h.qs.ne_blk h.box (by decide) _ hQ (Option.some.inj e).symm), h.ro.keptR hbq (by decide) hg, h.gd.keptR hbq (by decide) hg, ?_, h.rn.keptR hbq (by decide) hg, fun y hy => ?_, h.lg⟩
  · have := h.qs
    rw [hQ] at this ⊢
    exact this.stored2 k x hk
  · rcases List.mem_or_eq_of_mem_set hy with hy | rfl
    · exact hst y (h.qe y hy)
    · exact hst _ hx
/-- a queue, read off its cells -/
theorem CA.q_at (h : CA w l gc s g es is what ran a R nr kr) {k : Nat} (hk : k < a.nq) : ∃ gQ, a.Q = some ⟨gQ, 0, none⟩ ∧ w.cell? ⟨gQ, k * 2, none⟩ = some (.slice (es[k]?.getD zQe).A (es[k]?.getD zQe).n (es[k]?.getD zQe).c) ∧ w.cell? ⟨gQ, k * 2 + 1, none⟩ = some (.int .u64 (es[k]?.getD zQe).o) ∧ (∀ i, w.frozen? ⟨gQ, i, none⟩ = false) ∧ es[k]?.getD zQe ∈ es := by
  obtain ⟨gQ, h1, h2, h3, h4, h5⟩ := h.qs.at_ zQe hk
  refine ⟨gQ, h1, h4 0 (by omega), h4 1 (by omega), h5, ?_⟩
  have hl : k < es.length := by rw [h.qs.len]; exact hk
  rw [List.getElem?_eq_getElem hl]
  exact List.getElem_mem _
end
set_option maxRecDepth 100000 in
set_option maxHeartbeats 4000000 in
theorem renter_yes (l gc : Nat) (s : St) (g : Gr) (es : List Qe) (is what : Int) (ran : List Int) (a : Ra) (R : Option Addr) (nr kr : Nat) (w : World) (h : CA w l gc s g es is what ran a R nr kr) (hg : Good s.1 s.2.1 s.2.2) (hs : stC s (is, true) = 0) :
    Calls Tryz.prog 72 #[ptr gc] w fun x w' => x = .returned (.tuple #[]) ∧ (∃ a', a'.Q = a.Q ∧ a'.nq = a.nq ∧ a'.kq = a.kq ∧ CA w' l gc (stN s (is, true)) g es is what ran a' R nr kr) ∧ GrownP (CS gc a.Q R) w w' := by
  obtain ⟨A, n, k, B, m, d, D, kd, Q, nq, kq⟩ := a
  obtain ⟨now, ns, os⟩ := s
  have HC := hid h; have HB := hid (Below.refl w.heap.size w); have HG := hid hg; have HS := hid hs
  clear h hg hs
  go_enter Tryz.func72, Tryz.ntmps72
  go_upto_region 0 with fail
  have hon := hid (show oneF now ns os (is, true) = (0, stN (now, ns, os) (is, true)) from oneF_ok HG.out HS.out)
  obtain ⟨sn, hsn⟩ : ∃ x, x = stN (now, ns, os) (is, true) := ⟨_, rfl⟩
  rw [← hsn] at hon ⊢
  clear hsn
  obtain ⟨nw, nss, oss⟩ := sn
  have hlw := hid (show gc < w.heap.size from HC.out.box.lt)
  have bx := (Below.refl w.heap.size w).drew
  replace HC := hid (HC.out.step bx); replace HB := hid (below_then HB.out bx)
  clear bx
  have hszd := hid (show w.drew.heap.size = w.heap.size from rfl)
  refine wp_region_noPanic ?_
  refine wp_region_held_tail 14 (fun W' : World => W'.cell? ⟨gc, 0, none⟩ = some (.int .i64 now) ∧ W'.cell? ⟨gc, 1, none⟩ = some (.slice A n k) ∧ W'.cell? ⟨gc, 2, none⟩ = some (.slice B m d) ∧ W'.cell? ⟨gc, 8, none⟩ = some (.int .i64 is)) #[false, false, false, false, false, false, false, false, false, false, false, false, false, false, false, false, false, false] (by kernel_rfl) ⟨(HC.out.box).cells11.1, (HC.out.box).cells11.2.1, (HC.out.box).cells11.2.2.1, (HC.out.box).cells11.2.2.2.2.2.2.2.2.1⟩ (by kernel_rfl) (by kernel_rfl) (fun hS => ?_)
  generalize w.drew = Wd at *
  refine tkT 0 hS ?_
  refine tkT 1 hS ?_
  refine tkT 2 hS ?_
  refine tkT 3 hS ?_
  refine tkT 4 hS ?_
  refine tkT 5 hS ?_
  refine tkT 6 hS ?_
  refine tkT 7 hS ?_
  refine tkT 8 hS ?_
  refine tkT 9 hS ?_
  refine rdyT [10] (csyT (fun K hK => ?_) AllReadyT.nil)
  go_simp
  refine ((show Calls Tryz.prog 115 #[rv now A n k B m d, .int .i64 is] _ (OnePost _ (0, nw, nss, oss)) from hon.out ▸ enter1_any now A n k B m d ns os is _ HC.out.ro.rds)).mono ?_
  rintro e w10 ⟨A1, n1, c1, B1, m1, d1, rfl, hro, hb⟩
  have hsz0 := hid (show Wd.heap.size ≤ w10.heap.size from hb.size)
  replace HC := hid (HC.out.step hb); replace HB := hid (below_then HB.out hb)
  clear hb
  have RO := hid (hro.mono (show l ≤ _ by have := HC.out.lg; have := hlw.out; have := hszd.out; omega))
  clear hro
  go_wp2_with fail
  clear hS
  refine kyT hK ⟨(HC.out.box).cells11.1, (HC.out.box).cells11.2.1, (HC.out.box).cells11.2.2.1, (HC.out.box).cells11.2.2.2.2.2.2.2.2.1⟩ fun hS => ?_
  clear hK K
  refine tkT 11 hS ?_
  refine tkT 12 hS ?_
  refine rdyT [13] (csyT (fun K hK => ?_) AllReadyT.nil)
  go_simp
  refine (sureR_yes nw A1 n1 c1 B1 m1 d1 _).mono ?_
  rintro e w13 ⟨rfl, hb⟩
  have hsz1 := hid (show w10.heap.size ≤ w13.heap.size from hb.size)
  replace HC := hid (HC.out.step hb); replace RO := hid (RO.out.step hb); replace HB := hid (below_then HB.out hb)
  clear hb
  go_wp2_with fail
  clear hS
  refine kyT hK ⟨(HC.out.box).cells11.1, (HC.out.box).cells11.2.1, (HC.out.box).cells11.2.2.1, (HC.out.box).cells11.2.2.2.2.2.2.2.2.1⟩ fun hS => ?_
  clear hK K
  refine wpAnyT_done (by kernel_rfl) ?_
  simp only [List.drop_succ_cons, List.drop_zero]
  clear hS
  obtain ⟨y0, y1, y2, y3, y4, y5, y6, y7, y8, y9, y10, yf⟩ := HC.out.box.cells11
  go_wp2_with fail
  refine NoPanic.normal ?_
  clear y0 y1 y2 y3 y4 y5 y6 y7 y8 y9 y10 yf
  (try go_end0)
  have hgr := grown_set (grown_set (grown_set (World.grownBy.refl w13 (some gc)) 0 (.int .i64 nw)) 1 (.slice A1 n1 c1)) 2 (.slice B1 m1 d1)
  refine ⟨rfl, ⟨⟨A1, n1, c1, B1, m1, d1, D, kd, Q, nq, kq⟩, rfl, rfl, rfl, HC.out.stored hgr (((HC.out.box.setCell 0 _).setCell 1 _).setCell 2 _) RO.out HC.out.gd rfl rfl rfl⟩, ((GrownP.ofBelow (p := CS gc Q R) HB.out).trans (GrownP.ofGrown hgr (.inl rfl)))⟩
set_option maxRecDepth 100000 in
set_option maxHeartbeats 4000000 in
theorem renter_no (l gc : Nat) (s : St) (g : Gr) (es : List Qe) (is what : Int) (ran : List Int) (a : Ra) (R : Option Addr) (nr kr : Nat) (w : World) (h : CA w l gc s g es is what ran a R nr kr) (hg : Good s.1 s.2.1 s.2.2) (hs : stC s (is, true) ≠ 0) :
    Calls Tryz.prog 72 #[ptr gc] w fun x w' => x = Go.Proofs.YtfipdoofgbjbjaaGreat.leaves (stC s (is, true)) ∧ Below w.heap.size w w' := by
  obtain ⟨A, n, k, B, m, d, D, kd, Q, nq, kq⟩ := a
  obtain ⟨now, ns, os⟩ := s
  have HC := hid h; have HB := hid (Below.refl w.heap.size w); have HG := hid hg; have HS := hid hs
  clear h hg hs
  go_enter Tryz.func72, Tryz.ntmps72
  go_upto_region 0 with fail
  have hon := hid (show oneF now ns os (is, true) = (stC (now, ns, os) (is, true), (0, [], [])) from oneF_err HG.out HS.out)
  obtain ⟨cd, hcd⟩ : ∃ x, x = stC (now, ns, os) (is, true) := ⟨_, rfl⟩
  rw [← hcd] at hon HS ⊢
  clear hcd
  have bx := (Below.refl w.heap.size w).drew
  replace HC := hid (HC.out.step bx); replace HB := hid (below_then HB.out bx)
  clear bx
  have hszd := hid (show w.drew.heap.size = w.heap.size from rfl)
  refine wp_region_qp ?_
  refine wp_region_held_drew (S := (fun W' : World => W'.cell? ⟨gc, 0, none⟩ = some (.int .i64 now) ∧ W'.cell? ⟨gc, 1, none⟩ = some (.slice A n k) ∧ W'.cell? ⟨gc, 2, none⟩ = some (.slice B m d) ∧ W'.cell? ⟨gc, 8, none⟩ = some (.int .i64 is))) (by kernel_rfl) ⟨(HC.out.box).cells11.1, (HC.out.box).cells11.2.1, (HC.out.box).cells11.2.2.1, (HC.out.box).cells11.2.2.2.2.2.2.2.2.1⟩ (fun hS => ?_)
  generalize w.drew = Wd at *
  refine tk 0 hS ?_ (hQ := fun _ _ _ h => QP.put h)
  refine tk 1 hS ?_ (hQ := fun _ _ _ h => QP.put h)
  refine tk 2 hS ?_ (hQ := fun _ _ _ h => QP.put h)
  refine tk 3 hS ?_ (hQ := fun _ _ _ h => QP.put h)
  refine tk 4 hS ?_ (hQ := fun _ _ _ h => QP.put h)
  refine tk 5 hS ?_ (hQ := fun _ _ _ h => QP.put h)
  refine tk 6 hS ?_ (hQ := fun _ _ _ h => QP.put h)
  refine tk 7 hS ?_ (hQ := fun _ _ _ h => QP.put h)
  refine tk 8 hS ?_ (hQ := fun _ _ _ h => QP.put h)
  refine tk 9 hS ?_ (hQ := fun _ _ _ h => QP.put h)
  refine rdy [10] (csy (fun K hK => ?_) AllReadyH.nil)
  go_simp
  refine ((show Calls Tryz.prog 115 #[rv now A n k B m d, .int .i64 is] _ (OnePost _ (cd, 0, [], [])) from hon.out ▸ enter1_any now A n k B m d ns os is _ HC.out.ro.rds)).mono ?_
  rintro e w10 ⟨A1, n1, c1, B1, m1, d1, rfl, hro, hb⟩
  have hsz0 := hid (show Wd.heap.size ≤ w10.heap.size from hb.size)
  replace HC := hid (HC.out.step hb); replace HB := hid (below_then HB.out hb)
  clear hb
  clear hro
  go_wp2_with fail
  clear hS
  refine ky hK ⟨(HC.out.box).cells11.1, (HC.out.box).cells11.2.1, (HC.out.box).cells11.2.2.1, (HC.out.box).cells11.2.2.2.2.2.2.2.2.1⟩ fun hS => ?_
  clear hK K
  refine tk 11 hS ?_ (hQ := fun _ _ _ h => QP.put h)
  refine tk 12 hS ?_ (hQ := fun _ _ _ h => QP.put h)
  refine rdy [13] (csy (fun K hK => ?_) AllReadyH.nil)
  go_simp
  refine (sureR_no 0 A1 n1 c1 B1 m1 d1 cd w10 HS.out).mono ?_
  rintro e Wp ⟨rfl, hb⟩
  unfold Go.Proofs.YtfipdoofgbjbjaaGreat.leaves
  intro tm
  refine (?_ : bodyPost Tryz.prog Tryz.f72 _ _ _ _)
  exact ⟨rfl, rfl, below_then HB.out hb⟩
set_option maxRecDepth 100000 in
set_option maxHeartbeats 4000000 in
theorem rleave_yes (l gc : Nat) (s : St) (g : Gr) (es : List Qe) (is what : Int) (ran : List Int) (a : Ra) (R : Option Addr) (nr kr : Nat) (w : World) (h : CA w l gc s g es is what ran a R nr kr) (hg : Good s.1 s.2.1 s.2.2) (hs : stC s (is, false) = 0) :
    Calls Tryz.prog 73 #[ptr gc] w fun x w' => x = .returned (.tuple #[]) ∧ (∃ a', a'.Q = a.Q ∧ a'.nq = a.nq ∧ a'.kq = a.kq ∧ CA w' l gc (stN s (is, false)) g es is what ran a' R nr kr) ∧ GrownP (CS gc a.Q R) w w' := by
  obtain ⟨A, n, k, B, m, d, D, kd, Q, nq, kq⟩ := a
  obtain ⟨now, ns, os⟩ := s
  have HC := hid h; have HB := hid (Below.refl w.heap.size w); have HG := hid hg; have HS := hid hs
  clear h hg hs
  go_enter Tryz.func73, Tryz.ntmps73
  go_upto_region 0 with fail
  have hon := hid (show oneF now ns os (is, false) = (0, stN (now, ns, os) (is, false)) from oneF_ok HG.out HS.out)
  obtain ⟨sn, hsn⟩ : ∃ x, x = stN (now, ns, os) (is, false) := ⟨_, rfl⟩
  rw [← hsn] at hon ⊢
  clear hsn
  obtain ⟨nw, nss, oss⟩ := sn
  have hlw := hid (show gc < w.heap.size from HC.out.box.lt)
  have bx := (Below.refl w.heap.size w).drew
  replace HC := hid (HC.out.step bx); replace HB := hid (below_then HB.out bx)
  clear bx
  have hszd := hid (show w.drew.heap.size = w.heap.size from rfl)
  refine wp_region_noPanic ?_
  refine wp_region_held_tail 14 (fun W' : World => W'.cell? ⟨gc, 0, none⟩ = some (.int .i64 now) ∧ W'.cell? ⟨gc, 1, none⟩ = some (.slice A n k) ∧ W'.cell? ⟨gc, 2, none⟩ = some (.slice B m d) ∧ W'.cell? ⟨gc, 8, none⟩ = some (.int .i64 is)) #[false, false, false, false, false, false, false, false, false, false, false, false, false, false, false, false, false, false] (by kernel_rfl) ⟨(HC.out.box).cells11.1, (HC.out.box).cells11.2.1, (HC.out.box).cells11.2.2.1, (HC.out.box).cells11.2.2.2.2.2.2.2.2.1⟩ (by kernel_rfl) (by kernel_rfl) (fun hS => ?_)
  generalize w.drew = Wd at *
  refine tkT 0 hS ?_
  refine tkT 1 hS ?_
  refine tkT 2 hS ?_
  refine tkT 3 hS ?_
  refine tkT 4 hS ?_
  refine tkT 5 hS ?_
  refine tkT 6 hS ?_
  refine tkT 7 hS ?_
  refine tkT 8 hS ?_
  refine tkT 9 hS ?_
  refine rdyT [10] (csyT (fun K hK => ?_) AllReadyT.nil)
  go_simp
  refine ((show Calls Tryz.prog 116 #[rv now A n k B m d, .int .i64 is] _ (OnePost _ (0, nw, nss, oss)) from hon.out ▸ leave1_any now A n k B m d ns os is _ HC.out.ro.rds)).mono ?_
  rintro e w10 ⟨A1, n1, c1, B1, m1, d1, rfl, hro, hb⟩
  have hsz0 := hid (show Wd.heap.size ≤ w10.heap.size from hb.size)
  replace HC := hid (HC.out.step hb); replace HB := hid (below_then HB.out hb)
  clear hb
  have RO := hid (hro.mono (show l ≤ _ by have := HC.out.lg; have := hlw.out; have := hszd.out; omega))
  clear hro
  go_wp2_with fail
  clear hS
  refine kyT hK ⟨(HC.out.box).cells11.1, (HC.out.box).cells11.2.1, (HC.out.box).cells11.2.2.1, (HC.out.box).cells11.2.2.2.2.2.2.2.2.1⟩ fun hS => ?_
  clear hK K
  refine tkT 11 hS ?_
  refine tkT 12 hS ?_
  refine rdyT [13] (csyT (fun K hK => ?_) AllReadyT.nil)
  go_simp
  refine (sureR_yes nw A1 n1 c1 B1 m1 d1 _).mono ?_
  rintro e w13 ⟨rfl, hb⟩
  have hsz1 := hid (show w10.heap.size ≤ w13.heap.size from hb.size)
  replace HC := hid (HC.out.step hb); replace RO := hid (RO.out.step hb); replace HB := hid (below_then HB.out hb)
  clear hb
  go_wp2_with fail
  clear hS
  refine kyT hK ⟨(HC.out.box).cells11.1, (HC.out.box).cells11.2.1, (HC.out.box).cells11.2.2.1, (HC.out.box).cells11.2.2.2.2.2.2.2.2.1⟩ fun hS => ?_
  clear hK K
  refine wpAnyT_done (by kernel_rfl) ?_
  simp only [List.drop_succ_cons, List.drop_zero]
  clear hS
  obtain ⟨y0, y1, y2, y3, y4, y5, y6, y7, y8, y9, y10, yf⟩ := HC.out.box.cells11
  go_wp2_with fail
  refine NoPanic.normal ?_
  clear y0 y1 y2 y3 y4 y5 y6 y7 y8 y9 y10 yf
  (try go_end0)
  have hgr := grown_set (grown_set (grown_set (World.grownBy.refl w13 (some gc)) 0 (.int .i64 nw)) 1 (.slice A1 n1 c1)) 2 (.slice B1 m1 d1)
  refine ⟨rfl, ⟨⟨A1, n1, c1, B1, m1, d1, D, kd, Q, nq, kq⟩, rfl, rfl, rfl, HC.out.stored hgr (((HC.out.box.setCell 0 _).setCell 1 _).setCell 2 _) RO.out HC.out.gd rfl rfl rfl⟩, ((GrownP.ofBelow (p := CS gc Q R) HB.out).trans (GrownP.ofGrown hgr (.inl rfl)))⟩
set_option maxRecDepth 100000 in
set_option maxHeartbeats 4000000 in
theorem rleave_no (l gc : Nat) (s : St) (g : Gr) (es : List Qe) (is what : Int) (ran : List Int) (a : Ra) (R : Option Addr) (nr kr : Nat) (w : World) (h : CA w l gc s g es is what ran a R nr kr) (hg : Good s.1 s.2.1 s.2.2) (hs : stC s (is, false) ≠ 0) :
    Calls Tryz.prog 73 #[ptr gc] w fun x w' => x = Go.Proofs.YtfipdoofgbjbjaaGreat.leaves (stC s (is, false)) ∧ Below w.heap.size w w' := by
  obtain ⟨A, n, k, B, m, d, D, kd, Q, nq, kq⟩ := a
  obtain ⟨now, ns, os⟩ := s
  have HC := hid h; have HB := hid (Below.refl w.heap.size w); have HG := hid hg; have HS := hid hs
  clear h hg hs
  go_enter Tryz.func73, Tryz.ntmps73
  go_upto_region 0 with fail
  have hon := hid (show oneF now ns os (is, false) = (stC (now, ns, os) (is, false), (0, [], [])) from oneF_err HG.out HS.out)
  obtain ⟨cd, hcd⟩ : ∃ x, x = stC (now, ns, os) (is, false) := ⟨_, rfl⟩
  rw [← hcd] at hon HS ⊢
  clear hcd
  have bx := (Below.refl w.heap.size w).drew
  replace HC := hid (HC.out.step bx); replace HB := hid (below_then HB.out bx)
  clear bx
  have hszd := hid (show w.drew.heap.size = w.heap.size from rfl)
  refine wp_region_qp ?_
  refine wp_region_held_drew (S := (fun W' : World => W'.cell? ⟨gc, 0, none⟩ = some (.int .i64 now) ∧ W'.cell? ⟨gc, 1, none⟩ = some (.slice A n k) ∧ W'.cell? ⟨gc, 2, none⟩ = some (.slice B m d) ∧ W'.cell? ⟨gc, 8, none⟩ = some (.int .i64 is))) (by kernel_rfl) ⟨(HC.out.box).cells11.1, (HC.out.box).cells11.2.1, (HC.out.box).cells11.2.2.1, (HC.out.box).cells11.2.2.2.2.2.2.2.2.1⟩ (fun hS => ?_)
  generalize w.drew = Wd at *
  refine tk 0 hS ?_ (hQ := fun _ _ _ h => QP.put h)
  refine tk 1 hS ?_ (hQ := fun _ _ _ h => QP.put h)
  refine tk 2 hS ?_ (hQ := fun _ _ _ h => QP.put h)
  refine tk 3 hS ?_ (hQ := fun _ _ _ h => QP.put h)
  refine tk 4 hS ?_ (hQ := fun _ _ _ h => QP.put h)
  refine tk 5 hS ?_ (hQ := fun _ _ _ h => QP.put h)
  refine tk 6 hS ?_ (hQ := fun _ _ _ h => QP.put h)
  refine tk 7 hS ?_ (hQ := fun _ _ _ h => QP.put h)
  refine tk 8 hS ?_ (hQ := fun _ _ _ h => QP.put h)
  refine tk 9 hS ?_ (hQ := fun _ _ _ h => QP.put h)
  refine rdy [10] (csy (fun K hK => ?_) AllReadyH.nil)
  go_simp
  refine ((show Calls Tryz.prog 116 #[rv now A n k B m d, .int .i64 is] _ (OnePost _ (cd, 0, [], [])) from hon.out ▸ leave1_any now A n k B m d ns os is _ HC.out.ro.rds)).mono ?_
  rintro e w10 ⟨A1, n1, c1, B1, m1, d1, rfl, hro, hb⟩
  have hsz0 := hid (show Wd.heap.size ≤ w10.heap.size from hb.size)
  replace HC := hid (HC.out.step hb); replace HB := hid (below_then HB.out hb)
  clear hb
  clear hro
  go_wp2_with fail
  clear hS
  refine ky hK ⟨(HC.out.box).cells11.1, (HC.out.box).cells11.2.1, (HC.out.box).cells11.2.2.1, (HC.out.box).cells11.2.2.2.2.2.2.2.2.1⟩ fun hS => ?_
  clear hK K
  refine tk 11 hS ?_ (hQ := fun _ _ _ h => QP.put h)
  refine tk 12 hS ?_ (hQ := fun _ _ _ h => QP.put h)
  refine rdy [13] (csy (fun K hK => ?_) AllReadyH.nil)
  go_simp
  refine (sureR_no 0 A1 n1 c1 B1 m1 d1 cd w10 HS.out).mono ?_
  rintro e Wp ⟨rfl, hb⟩
  unfold Go.Proofs.YtfipdoofgbjbjaaGreat.leaves
  intro tm
  refine (?_ : bodyPost Tryz.prog Tryz.f73 _ _ _ _)
  exact ⟨rfl, rfl, below_then HB.out hb⟩
end Go.Proofs.YtfipdoofgbjbjaaGreat

/- package rcu: run. No condition but sizes. -/
namespace Go.Proofs.YtfipdoofgbjbjaaGreat
open Go.RowKit
attribute [local go_sem] Oper.semAt_some
theorem GrownP.step {q : Nat → Prop} {w a b : World} (h : GrownP q w a) (k : Below a.heap.size a b) : GrownP q w b := h.thenB k h.size
/-- what a cpu holds, but for its box -/
structure CX (w : World) (l gc : Nat) (s : St) (g : Gr) (es : List Qe) (ran : List Int) (a : Ra) (R : Option Addr) (nr kr : Nat) : Prop where
  ro : Rown w l a.A a.n a.k a.B a.m a.d s.2.1 s.2.2
  gd : Ow blv w l 4 a.D g.nd.length a.kd g.nd
  qs : Om 2 encQ w l 58 a.Q a.nq a.kq es
  rn : Ow u64v w l 35 R nr kr ran
  qe : ∀ x ∈ es, QeO w l (CS gc a.Q R) x
  lg : l ≤ gc
section
variable {w w' : World} {l gc : Nat} {s : St} {g : Gr} {es : List Qe} {is what : Int} {ran : List Int} {a : Ra} {R : Option Addr} {nr kr : Nat}
theorem CA.cx (h : CA w l gc s g es is what ran a R nr kr) : CX w l gc s g es ran a R nr kr := ⟨h.ro, h.gd, h.qs, h.rn, h.qe, h.lg⟩
theorem CX.ca (h : CX w l gc s g es ran a R nr kr) (hb : Blk w gc 78 (ccells s g a is what R nr kr)) : CA w l gc s g es is what ran a R nr kr := ⟨hb, h.ro, h.gd, h.qs, h.rn, h.qe, h.lg⟩
theorem CX.step (h : CX w l gc s g es ran a R nr kr) (hb : Below w.heap.size w w') : CX w' l gc s g es ran a R nr kr :=
  ⟨h.ro.step hb, h.gd.step hb, h.qs.step hb, h.rn.step hb, fun x hx => (h.qe x hx).step hb, h.lg⟩
theorem CX.lts (h : CX w l gc s g es ran a R nr kr) : (∀ b, a.Q = some b → b.block < w.heap.size) ∧ ∀ x ∈ es, 0 < x.n → ∀ b, x.A = some b → b.block < w.heap.size := by
  refine ⟨fun b hb => ?_, fun x hx hn b hb => ?_⟩
  · obtain ⟨_, cs, q⟩ := h.qs.blk b hb; exact q.lt
  · obtain ⟨b', off, e, _, h2, _⟩ := (h.qe x hx).1.sm.row hn
    rw [hb] at e; cases e; exact h2
/-- a box that is new to it is turned -/
theorem CX.turn (h : CX w l gc s g es ran a R nr kr) {q : Nat} {t : TypeId} {cs : Array Value} (hb : Blk w q t cs) (h2 : t ≠ 3) (h3 : t ≠ 4) (h4 : t ≠ 35)
    (hq : ∀ b, a.Q = some b → b.block ≠ q) (hf : ∀ x ∈ es, 0 < x.n → ∀ b, x.A = some b → b.block ≠ q) (hg : w.grownBy w' (some q)) : CX w' l gc s g es ran a R nr kr :=
  ⟨h.ro.keptR hb h2 hg, h.gd.keptR hb h3 hg, h.qs.keptG hg (fun b hb e => hq b hb (Option.some.inj e)), h.rn.keptR hb h4 hg, fun x hx => by
    obtain ⟨k1, k2⟩ := h.qe x hx
    exact ⟨k1.keptP (GrownP.ofGrown (p := fun i => i = q) hg rfl) (fun hn b hb e => hf x hx hn b hb e), k2⟩, h.lg⟩
/-- its box is turned -/
theorem CX.boxed (h : CX w l gc s g es ran a R nr kr) {cs : Array Value} (hb : Blk w gc 78 cs) (hg : w.grownBy w' (some gc)) : CX w' l gc s g es ran a R nr kr :=
  ⟨h.ro.keptR hb (by decide) hg, h.gd.keptR hb (by decide) hg, h.qs.keptR hb (by decide) hg, h.rn.keptR hb (by decide) hg, fun x hx => by
    obtain ⟨k1, k2, k3, k4, k5⟩ := h.qe x hx
    exact ⟨k1.keptP (GrownP.ofGrown (p := fun i => i = gc) hg rfl) (fun hn b hb e => k5 hn b hb (.inl e)), k2, k3, k4, k5⟩, h.lg⟩
/-- a queue is stored -/
theorem CX.put (h : CX w l gc s g es ran a R nr kr) {gQ k : Nat} (hQ : a.Q = some ⟨gQ, 0, none⟩) (hk : k < a.nq) (x : Qe) (hx : QeO w l (CS gc a.Q R) x) :
    CX ((w.setCell ⟨gQ, k * 2, none⟩ (encQ x 0)).setCell ⟨gQ, k * 2 + 1, none⟩ (encQ x 1)) l gc s g (es.set k x) ran a R nr kr := by
  have hg : w.grownBy ((w.setCell ⟨gQ, k * 2, none⟩ (encQ x 0)).setCell ⟨gQ, k * 2 + 1, none⟩ (encQ x 1)) (some gQ) := grown_set (grown_set (World.grownBy.refl _ _) _ _) _ _
  obtain ⟨_, cs, hbq⟩ := h.qs.blk _ hQ
  have hst : ∀ y, QeO w l (CS gc a.Q R) y → QeO ((w.setCell ⟨gQ, k * 2, none⟩ (encQ x 0)).setCell ⟨gQ, k * 2 + 1, none⟩ (encQ x 1)) l (CS gc a.Q R) y := fun y ⟨k1, k2, k3, k4, k5⟩ =>
    ⟨k1.keptP (GrownP.ofGrown (p := fun i => i = gQ) hg rfl) (fun hn b hb e => k5 hn b hb (.inr (.inl ⟨_, hQ, e⟩))), k2, k3, k4, k5⟩
  refine ⟨h.ro.keptR hbq (by decide) hg, h.gd.keptR hbq (by decide) hg, ?_, h.rn.keptR hbq (by decide) hg, fun y hy => ?_, h.lg⟩
  · have := h.qs
    rw [hQ] at this ⊢
    exact this.stored2 k x hk
  · rcases List.mem_or_eq_of_mem_set hy with hy | rfl
    · exact hst y (h.qe y hy)
    · exact hst _ hx
theorem CX.q_at (h : CX w l gc s g es ran a R nr kr) {k : Nat} (hk : k < a.nq) : ∃ gQ, a.Q = some ⟨gQ, 0, none⟩ ∧ w.cell? ⟨gQ, k * 2, none⟩ = some (.slice (es[k]?.getD zQe).A (es[k]?.getD zQe).n (es[k]?.getD zQe).c) ∧ w.cell? ⟨gQ, k * 2 + 1, none⟩ = some (.int .u64 (es[k]?.getD zQe).o) ∧ (∀ i, w.frozen? ⟨gQ, i, none⟩ = false) ∧ es[k]?.getD zQe ∈ es := by
  obtain ⟨gQ, h1, h2, h3, h4, h5⟩ := h.qs.at_ zQe hk
  refine ⟨gQ, h1, h4 0 (by omega), h4 1 (by omega), h5, ?_⟩
  have hl : k < es.length := by rw [h.qs.len]; exact hk
  rw [List.getElem?_eq_getElem hl]
  exact List.getElem_mem _
/-- a word is appended to what was run -/
theorem CX.app (h : CX w l gc s g es ran a R nr kr) {R' : Option Addr} {m k' : Nat} {ran' : List Int} (ho : Ow u64v w' l 35 R' m k' ran') (hg : w.grownBy w' (Value.slice R nr kr).ownBlock)
    (hat : (Value.slice R' m k').ownBlock = (Value.slice R nr kr).ownBlock ∨ (Value.slice R' m k').ownBlock = some w.heap.size) : CX w' l gc s g es ran' a R' m k' := by
  have hlt := h.lts
  refine ⟨⟨h.ro.oa.keptO h.rn (by decide) hg, h.ro.ob.keptO h.rn (by decide) hg, h.ro.apart, h.ro.hn, h.ro.hm⟩, h.gd.keptO h.rn (by decide) hg, h.qs.keptO h.rn (by decide) hg, ho, fun x hx => ?_, h.lg⟩
  obtain ⟨k1, k2, k3, k4, k5⟩ := h.qe x hx
  have hgp : GrownP (fun i => some i = (Value.slice R nr kr).ownBlock) w w' := ⟨hg.os, hg.tape, hg.output, hg.size, fun i hi hn => hg.block i hi hn⟩
  refine ⟨k1.keptP hgp (fun hn b hb e => ?_), k2, k3, k4, fun hn b hb e => ?_⟩
  · obtain ⟨r, hr, hrb⟩ := own_addr e.symm
    exact k5 hn b hb (.inr (.inr ⟨r, hr, hrb.symm⟩))
  · rcases e with e | e | ⟨r, hr, e⟩
    · exact k5 hn b hb (.inl e)
    · exact k5 hn b hb (.inr (.inl e))
    · have e1 : (Value.slice R' m k').ownBlock = some r.block := by rw [hr]; rfl
      rcases hat with h1 | h1
      · rw [e1] at h1
        obtain ⟨r2, hr2, hrb⟩ := own_addr h1.symm
        exact k5 hn b hb (.inr (.inr ⟨r2, hr2, e.trans hrb.symm⟩))
      · rw [e1] at h1
        have h2 := Option.some.inj h1
        have := hlt.2 x hx hn b hb
        omega
end
theorem QeO.fresh {w : World} {l lo : Nat} {x : Qe} {gc : Nat} {Q R : Option Addr} (h : Qown w lo x.A x.n x.l) (hl : l ≤ lo) (h1 : x.n ≤ x.c) (h2 : x.n ≤ 1000) (h3 : 0 ≤ x.o ∧ x.o ≤ 18446744073709551615) (hg : gc < lo) (hQ : ∀ b, Q = some b → b.block < lo) (hR : ∀ b, R = some b → b.block < lo) : QeO w l (CS gc Q R) x := by
  refine ⟨h.mono hl, h1, h2, h3, fun hn b hb e => ?_⟩
  obtain ⟨b', off, e1, h4, _, _⟩ := h.sm.row hn
  rw [hb] at e1; cases e1
  rcases e with e | ⟨q, hq, e⟩ | ⟨q, hq, e⟩
  · have : b' = gc := e
    omega
  · have := hQ q hq
    have : b' = q.block := e
    omega
  · have := hR q hq
    have : b' = q.block := e
    omega
theorem QeO.app {w w' : World} {l lo gc nr kr m k' : Nat} {Q R R' : Option Addr} {x : Qe} {ran : List Int} (hx : QeO w l (CS gc Q R) x) (hrn : Ow u64v w lo 35 R nr kr ran) (hg : w.grownBy w' (Value.slice R nr kr).ownBlock)
    (hat : (Value.slice R' m k').ownBlock = (Value.slice R nr kr).ownBlock ∨ (Value.slice R' m k').ownBlock = some w.heap.size) : QeO w' l (CS gc Q R') x := by
  obtain ⟨k1, k2, k3, k4, k5⟩ := hx
  have hgp : GrownP (fun i => some i = (Value.slice R nr kr).ownBlock) w w' := ⟨hg.os, hg.tape, hg.output, hg.size, fun i hi hn => hg.block i hi hn⟩
  refine ⟨k1.keptP hgp (fun hn b hb e => ?_), k2, k3, k4, fun hn b hb e => ?_⟩
  · obtain ⟨r, hr, hrb⟩ := own_addr e.symm
    exact k5 hn b hb (.inr (.inr ⟨r, hr, hrb.symm⟩))
  · rcases e with e | e | ⟨r, hr, e⟩
    · exact k5 hn b hb (.inl e)
    · exact k5 hn b hb (.inr (.inl e))
    · have e1 : (Value.slice R' m k').ownBlock = some r.block := by rw [hr]; rfl
      rcases hat with h1 | h1
      · rw [e1] at h1
        obtain ⟨r2, hr2, hrb⟩ := own_addr h1.symm
        exact k5 hn b hb (.inr (.inr ⟨r2, hr2, e.trans hrb.symm⟩))
      · rw [e1] at h1
        have h2 := Option.some.inj h1
        obtain ⟨b', off, e2, _, h4, _⟩ := k1.sm.row hn
        rw [hb] at e2; cases e2
        have : b' = r.block := e
        omega
theorem QeO.set {w w' : World} {l gc q : Nat} {Q R : Option Addr} {x : Qe} (hx : QeO w l (CS gc Q R) x) (hg : w.grownBy w' (some q)) (hq : CS gc Q R q) : QeO w' l (CS gc Q R) x := by
  obtain ⟨k1, k2, k3, k4, k5⟩ := hx
  exact ⟨k1.keptP (GrownP.ofGrown (p := fun i => i = q) hg rfl) (fun hn b hb e => k5 hn b hb (by rw [e]; exact hq)), k2, k3, k4, k5⟩
section
variable {w w' : World} {l gc : Nat} {s : St} {g : Gr} {es : List Qe} {ran : List Int} {a : Ra} {R : Option Addr} {nr kr gQ k xn xc : Nat} {xA : Option Addr} {xo : Int} {xl : List Cb}
theorem CX.q0 (h : CX w l gc s g es ran a R nr kr) (hQ : a.Q = some ⟨gQ, 0, none⟩) (hk : k < a.nq) (hx : es[k]?.getD zQe = ⟨xl, xo, xA, xn, xc⟩) : w.cell? ⟨gQ, k * 2, none⟩ = some (.slice xA xn xc) := by
  obtain ⟨g2, h1, h2, _⟩ := h.q_at hk
  rw [hQ] at h1; cases h1
  rw [hx] at h2; exact h2
theorem CX.q1 (h : CX w l gc s g es ran a R nr kr) (hQ : a.Q = some ⟨gQ, 0, none⟩) (hk : k < a.nq) (hx : es[k]?.getD zQe = ⟨xl, xo, xA, xn, xc⟩) : w.cell? ⟨gQ, k * 2 + 1, none⟩ = some (.int .u64 xo) := by
  obtain ⟨g2, h1, _, h2, _⟩ := h.q_at hk
  rw [hQ] at h1; cases h1
  rw [hx] at h2; exact h2
theorem CX.qsm (h : CX w l gc s g es ran a R nr kr) (hx : ⟨xl, xo, xA, xn, xc⟩ ∈ es) : Sm 2 encC (0, 0) w 0 w.heap.size xA xn xl := ((h.qe _ hx).1.mono (Nat.zero_le _)).sm
end
set_option maxRecDepth 100000 in
set_option maxHeartbeats 8000000 in
theorem rrun_yes (l gc : Nat) (s : St) (g : Gr) (es : List Qe) (cp : Nat) (what : Int) (ran : List Int) (a : Ra) (R : Option Addr) (nr kr : Nat) (w : World) (h : CA w l gc s g es cp what ran a R nr kr) (hk : cp < a.nq) (hnq : a.nq ≤ 1000) (x : Qe) (hx : es[cp]?.getD zQe = x) (o' : Int) (l' : List Cb) (v : Int) (ht : takeF x.o x.l = (o', l', v, 0)) (hon : 0 ≤ o' ∧ o' ≤ 18446744073709551615) (hln : l'.length ≤ 1000) (hnr : nr ≤ 1000000) :
    Calls Tryz.prog 51 #[ptr gc] w fun x' w' => x' = .returned (.tuple #[]) ∧ (∃ R' kr' A n c, CA w' l gc s g (es.set cp ⟨l', o', A, n, c⟩) cp what (ran ++ [v]) a R' (nr + 1) kr') ∧ GrownP (CS gc a.Q R) w w' := by
  have HLN := hid hln; have HON := hid hon; have HNR := hid hnr
  clear hln hon hnr
  obtain ⟨A, n, k, B, m, d, D, kd, Q, nq, kq⟩ := a
  obtain ⟨now, ns, os⟩ := s
  have hk : cp < nq := hk
  have hnq : nq ≤ 1000 := hnq
  have HB := hid (Below.refl w.heap.size w); have HX := hid h.cx; have PC := hid h.box
  obtain ⟨gQ, hQ, _, _, _, hmem⟩ := h.q_at hk
  have hQ : Q = some ⟨gQ, 0, none⟩ := hQ
  rw [hx] at hmem
  have HM := hid hmem; have HXX := hid hx; have HK := hid hk; have HLT := hid h.cx.lts; have HT := hid ht; have HQE := hid (h.qe x hmem); have hlw := hid (show gc < w.heap.size from h.box.lt)
  have HRL := hid (show ∀ b, R = some b → b.block < w.heap.size from fun b hb => by obtain ⟨_, cs, q⟩ := h.rn.blk b hb; exact q.lt)
  have hki : (cp : Int) < (nq : Int) := by omega
  clear h hk hx hmem ht
  subst hQ
  obtain ⟨xl, xo, xA, xn, xc⟩ := x
  dsimp only at HT HQE HM HXX
  have hgQ := hid (show gQ < w.heap.size from HLT.out.1 _ rfl)
  have hcq := hid (show gc ≠ gQ from fun e => HX.out.qs.ne_blk PC.out (by decide) _ rfl e.symm)
  obtain ⟨i0, hi0, hz00, hz01, hz02⟩ := info_parts info_u64
  go_enter Tryz.func51, Tryz.ntmps51
  go_upto_region 0 with fail
  have bx := (Below.refl w.heap.size w).drew
  replace HX := hid (HX.out.step bx); replace PC := hid (PC.out.step bx); replace HB := hid (below_then HB.out bx)
  clear bx
  have hszd := hid (show w.drew.heap.size = w.heap.size from rfl)
  refine wp_region_noPanic ?_
  refine wp_region_held_drew (S := (fun W' : World => W'.cell? ⟨gc, 7, none⟩ = some (.slice (some ⟨gQ, 0, none⟩) nq kq) ∧ W'.cell? ⟨gc, 8, none⟩ = some (.int .i64 cp) ∧ W'.cell? ⟨gQ, cp * 2, none⟩ = some (.slice xA xn xc) ∧ W'.cell? ⟨gQ, cp * 2 + 1, none⟩ = some (.int .u64 xo))) (by kernel_rfl) ⟨PC.out.cells11.2.2.2.2.2.2.2.1, PC.out.cells11.2.2.2.2.2.2.2.2.1, (HX.out.q0 rfl HK.out HXX.out), (HX.out.q1 rfl HK.out HXX.out)⟩ (fun hS => ?_)
  generalize w.drew = Wd at *
  refine tk 0 hS ?_
  refine tk 1 hS ?_
  refine tk 2 hS ?_
  refine tk 3 hS ?_
  refine tk 4 hS ?_
  refine tk 5 hS ?_
  refine tk 6 hS ?_
  refine tk 7 hS ?_
  refine tk 8 hS ?_
  refine tk 9 hS ?_
  refine tk 10 hS ?_
  refine rdy [11, 16] (csy (fun K hK => ?_) (csy (fun K hK => ?_) AllReadyH.nil))
  ·skip
   go_simp
   refine ((show Calls Tryz.prog 88 #[qv xA xn xc xo] _ (TkPost _ (o', l', v, 0)) from HT.out ▸ qtake_any xA xn xc xo xl _ (HX.out.qsm HM.out) (by have := HQE.out.2.2.1; dsimp only at this; omega) HQE.out.2.2.2.1.1)).mono ?_
   rintro e w11 ⟨A11, n11, c11, rfl, hqo, hb, hnc⟩
   have hsz0 := hid (show Wd.heap.size ≤ w11.heap.size from hb.size)
   replace HX := hid (HX.out.step hb); replace PC := hid (PC.out.step hb); replace HB := hid (below_then HB.out hb)
   clear hb
   have QT := hid hqo; have HNC := hid hnc; have HLO := hid (show w.heap.size ≤ Wd.heap.size by have := hszd.out; omega)
   clear hqo hnc
   have HQN := hid (show QeO w11 l (CS gc (some ⟨gQ, 0, none⟩) R) ⟨l', o', A11, n11, c11⟩ from QeO.fresh QT.out (by have := HX.out.lg; have := hlw.out; have := HLO.out; omega) HNC.out (by have h7 := QT.out.sm.len; have := HLN.out; dsimp only at h7 ⊢; omega) HON.out (by have := hlw.out; have := HLO.out; omega) (fun b hb => by cases hb; have := hgQ.out; have := HLO.out; dsimp only; omega) (fun b hb => by have := HRL.out b hb; have := HLO.out; omega))
   clear QT HNC
   go_wp2_with fail
   clear hS
   refine ky hK ⟨PC.out.cells11.2.2.2.2.2.2.2.1, PC.out.cells11.2.2.2.2.2.2.2.2.1, (HX.out.q0 rfl HK.out HXX.out), (HX.out.q1 rfl HK.out HXX.out)⟩ fun hS => ?_
   clear hK K
   refine tk 12 hS ?_
   refine tk 13 hS ?_
   refine tk 14 hS ?_
   refine tk 15 hS ?_
   refine rdy [16] (csy (fun K hK => ?_) AllReadyH.nil)
   go_simp
   refine named_alloc ?_
   intro Wa16 hbk hb hsz
   have hsz1 := hid hsz
   obtain ⟨gz, hgz⟩ : ∃ z, z = w11.heap.size := ⟨_, rfl⟩
   have HGZ := hid (show gz < Wa16.heap.size by omega)
   have HGW := hid (show w.heap.size ≤ gz by have := hszd.out; have := hsz0.out; have := hsz1.out; omega)
   rw [← hgz] at hbk ⊢
   have NE := hid (show 0 < n11 → ∀ b, A11 = some b → b.block ≠ gz from fun hn b hb2 e => by obtain ⟨b', off, e1, _, h4, _⟩ := HQN.out.1.sm.row hn; rw [hb2] at e1; cases e1; dsimp only at e; omega)
   clear hgz
   replace HX := hid (HX.out.step hb); replace PC := hid (PC.out.step hb); replace HQN := hid (HQN.out.step hb); replace HB := hid (below_then HB.out hb)
   have PZ := hid hbk
   clear hb hbk hsz
   clear hS
   refine ky hK ⟨PC.out.cells11.2.2.2.2.2.2.2.1, PC.out.cells11.2.2.2.2.2.2.2.2.1, (HX.out.q0 rfl HK.out HXX.out), (HX.out.q1 rfl HK.out HXX.out)⟩ fun hS => ?_
   clear hK K
   refine rdy [17] (csy (fun K hK => ?_) AllReadyH.nil)
   obtain ⟨y00, y01, yf0⟩ := PZ.out.cells2
   go_simp
   clear y00 y01 yf0
   refine named_store2 PZ.out ?_
   intro Ws17 hbk hgr hsz
   have hsz2 := hid hsz
   clear hsz
   have HB0 := hid (HB.out.grown hgr HB.out.size (fun r e => by cases e; exact HGW.out))
   replace HX := hid (HX.out.turn PZ.out (by decide) (by decide) (by decide) (fun b hb => by have := HLT.out.1 b hb; have := HGW.out; omega) (fun y hy hn b hb => by have := HLT.out.2 y hy hn b hb; have := HGW.out; omega) hgr)
   replace PC := hid (PC.out.grown hgr (by have := hlw.out; have := HGW.out; simp; omega))
   replace HQN := hid (show QeO Ws17 l (CS gc (some ⟨gQ, 0, none⟩) R) _ from ⟨HQN.out.1.keptP (GrownP.ofGrown (p := fun i => i = gz) hgr rfl) (fun hn b hb e => NE.out hn b hb e), HQN.out.2⟩)
   replace HB := HB0
   clear HB0 NE
   replace PZ := hid hbk
   clear hbk hgr
   clear hS
   refine ky hK ⟨PC.out.cells11.2.2.2.2.2.2.2.1, PC.out.cells11.2.2.2.2.2.2.2.2.1, (HX.out.q0 rfl HK.out HXX.out), (HX.out.q1 rfl HK.out HXX.out)⟩ fun hS => ?_
   clear hK K
   refine tk 18 hS ?_
   refine tk 19 hS ?_
   refine wpAnyH_done (by kernel_rfl) ?_ _
   refine NoPanic.normal ?_
   clear hS
   obtain ⟨y00, y01, yf0⟩ := PZ.out.cells2
   go_wp2_with fail
   clear y00 y01 yf0
   refine (rneed_yes 0 _).mono ?_
   rintro e v1 ⟨rfl, rfl⟩
   go_upto_region 2 with fail
   have HG := hid (GrownP.ofBelow (p := CS gc (some ⟨gQ, 0, none⟩) R) HB.out)
   clear HB hszd hsz0 hsz1
   have bx := (Below.refl v1.heap.size v1).drew
   replace HX := hid (HX.out.step bx); replace PC := hid (PC.out.step bx); replace PZ := hid (PZ.out.step bx); replace HQN := hid (HQN.out.step bx); replace HG := hid (HG.out.step bx)
   clear bx
   have hszd := hid (show v1.drew.heap.size = v1.heap.size from rfl)
   refine wp_region_noPanic ?_
   refine wp_region_held_tail 20 (fun W' : World => W'.cell? ⟨gc, 7, none⟩ = some (.slice (some ⟨gQ, 0, none⟩) nq kq) ∧ W'.cell? ⟨gc, 8, none⟩ = some (.int .i64 cp) ∧ W'.cell? ⟨gc, 10, none⟩ = some (.slice R nr kr) ∧ W'.cell? ⟨gz, 0, none⟩ = some (.slice A11 n11 c11) ∧ W'.cell? ⟨gz, 1, none⟩ = some (.int .u64 o')) #[false, false, false, false, false, false, false, false, false, false, false, false, false, false, false, false, false, false, false, false, false, false, false] (by kernel_rfl) ⟨PC.out.cells11.2.2.2.2.2.2.2.1, PC.out.cells11.2.2.2.2.2.2.2.2.1, PC.out.cells11.2.2.2.2.2.2.2.2.2.2.1, PZ.out.cells2.1, PZ.out.cells2.2.1⟩ (by kernel_rfl) (by kernel_rfl) (fun hS => ?_)
   generalize v1.drew = Wd at *
   refine tkT 0 hS ?_
   refine tkT 1 hS ?_
   refine tkT 2 hS ?_
   refine tkT 3 hS ?_
   refine tkT 4 hS ?_
   refine tkT 5 hS ?_
   refine tkT 6 hS ?_
   refine tkT 7 hS ?_
   refine tkT 8 hS ?_
   refine tkT 9 hS ?_
   refine tkT 10 hS ?_
   refine tkT 11 hS ?_
   refine tkT 12 hS ?_
   refine tkT 13 hS ?_
   refine tkT 14 hS ?_
   refine tkT 15 hS ?_
   refine rdyT [16] (csyT (fun K hK => ?_) AllReadyT.nil)
   go_simp
   refine named_alloc ?_
   intro Wa16 hbk hb hsz
   have hsz0 := hid hsz
   obtain ⟨gv, hgv⟩ : ∃ z, z = Wd.heap.size := ⟨_, rfl⟩
   rw [← hgv] at hbk ⊢
   clear hgv
   replace HX := hid (HX.out.step hb); replace PC := hid (PC.out.step hb); replace PZ := hid (PZ.out.step hb); replace HQN := hid (HQN.out.step hb); replace HG := hid (HG.out.step hb)
   have PV := hid hbk
   clear hb hbk hsz
   clear hS
   refine kyT hK ⟨PC.out.cells11.2.2.2.2.2.2.2.1, PC.out.cells11.2.2.2.2.2.2.2.2.1, PC.out.cells11.2.2.2.2.2.2.2.2.2.2.1, PZ.out.cells2.1, PZ.out.cells2.2.1⟩ fun hS => ?_
   clear hK K
   refine rdyT [17] (csyT (fun K hK => ?_) AllReadyT.nil)
   refine step_app u64v 0 _ rfl _ _ 40 rfl l 35 i0 _ 8 Tryz.underlying40 hi0 hz00 hz01 hz02 rfl R nr kr ran rfl HX.out.rn 0 _ (some ⟨gv, 0, none⟩) 1 1 [v] rfl ((PV.out.ow (enc := u64v) (xs := [v]) (lo := 0) rfl rfl (Nat.zero_le _) (by simp [maxLen])).sl (d := 0)) (fun _ => rfl) (by have := HNR.out; simp only [maxLen]; omega) (by have := HNR.out; omega) (by have := HX.out.lg; have := PC.out.lt; omega) ?_
   intro A17 c17 Wc17 hown hgr hat
   replace HQN := hid (HQN.out.app HX.out.rn hgr hat)
   replace PC := hid (PC.out.keptO HX.out.rn (by decide) hgr)
   replace PZ := hid (PZ.out.keptO HX.out.rn (by decide) hgr)
   replace HG := hid (HG.out.thenG hgr (fun r e => by obtain ⟨b, hb, hbb⟩ := own_addr e; exact .inr (.inr (.inr ⟨b, hb, hbb.symm⟩))))
   replace HX := hid (HX.out.app hown hgr hat)
   clear hown hgr hat PV
   clear hS
   refine kyT hK ⟨PC.out.cells11.2.2.2.2.2.2.2.1, PC.out.cells11.2.2.2.2.2.2.2.2.1, PC.out.cells11.2.2.2.2.2.2.2.2.2.2.1, PZ.out.cells2.1, PZ.out.cells2.2.1⟩ fun hS => ?_
   clear hK K
   refine tkT 18 hS ?_
   refine rdyT [19] (csyT (fun K hK => ?_) AllReadyT.nil)
   obtain ⟨g2, hg2, q0, q1, qf, _⟩ := HX.out.q_at HK.out
   cases hg2
   go_simp
   clear q0 q1 qf
   have hgr := grown_set (grown_set (World.grownBy.refl Wc17 (some gQ)) (cp * 2) (.slice A11 n11 c11)) (cp * 2 + 1) (.int .u64 o')
   replace HX := hid (show CX ((Wc17.setCell ⟨gQ, cp * 2, none⟩ (.slice A11 n11 c11)).setCell ⟨gQ, cp * 2 + 1, none⟩ (.int .u64 o')) _ _ _ _ _ _ _ _ _ _ from HX.out.put rfl HK.out ⟨l', o', A11, n11, c11⟩ HQN.out)
   replace PC := hid (PC.out.grown hgr (by have := hcq.out; simpa using this))
   replace PZ := hid (PZ.out.grown hgr (by have := hgQ.out; have := HGW.out; simp; omega))
   replace HG := hid (HG.out.thenG hgr (fun r e => by cases e; exact .inr (.inr (.inl ⟨_, rfl, rfl⟩))))
   clear hgr HQN
   generalize (Wc17.setCell ⟨gQ, cp * 2, none⟩ (.slice A11 n11 c11)).setCell ⟨gQ, cp * 2 + 1, none⟩ (.int .u64 o') = Wc19 at *
   clear hS
   refine kyT hK ⟨PC.out.cells11.2.2.2.2.2.2.2.1, PC.out.cells11.2.2.2.2.2.2.2.2.1, PC.out.cells11.2.2.2.2.2.2.2.2.2.2.1, PZ.out.cells2.1, PZ.out.cells2.2.1⟩ fun hS => ?_
   clear hK K
   refine wpAnyT_done (by kernel_rfl) ?_
   simp only [List.drop_succ_cons, List.drop_zero]
   clear hS
   obtain ⟨y0, y1, y2, y3, y4, y5, y6, y7, y8, y9, y10, yf⟩ := PC.out.cells11
   go_wp2_with fail
   refine NoPanic.normal ?_
   clear y0 y1 y2 y3 y4 y5 y6 y7 y8 y9 y10 yf
   (try go_end0)
   have hgr := grown_set (World.grownBy.refl Wc19 (some gc)) 10 (.slice A17 (nr + 1) c17)
   refine ⟨rfl, ⟨A17, c17, A11, n11, c11, (HX.out.boxed PC.out hgr).ca (PC.out.setCell 10 _)⟩, HG.out.thenG hgr (fun r e => by cases e; exact .inr (.inl rfl))⟩
  ·skip
   go_simp
   refine named_alloc ?_
   intro Wa16 hbk hb hsz
   have hsz0 := hid hsz
   obtain ⟨gz, hgz⟩ : ∃ z, z = Wd.heap.size := ⟨_, rfl⟩
   have HGZ := hid (show gz < Wa16.heap.size by omega)
   have HGW := hid (show w.heap.size ≤ gz by have := hszd.out; have := hsz0.out; omega)
   rw [← hgz] at hbk ⊢
   clear hgz
   replace HX := hid (HX.out.step hb); replace PC := hid (PC.out.step hb); replace HB := hid (below_then HB.out hb)
   have PZ := hid hbk
   clear hb hbk hsz
   clear hS
   refine ky hK ⟨PC.out.cells11.2.2.2.2.2.2.2.1, PC.out.cells11.2.2.2.2.2.2.2.2.1, (HX.out.q0 rfl HK.out HXX.out), (HX.out.q1 rfl HK.out HXX.out)⟩ fun hS => ?_
   clear hK K
   refine rdy [11] (csy (fun K hK => ?_) AllReadyH.nil)
   go_simp
   refine ((show Calls Tryz.prog 88 #[qv xA xn xc xo] _ (TkPost _ (o', l', v, 0)) from HT.out ▸ qtake_any xA xn xc xo xl _ (HX.out.qsm HM.out) (by have := HQE.out.2.2.1; dsimp only at this; omega) HQE.out.2.2.2.1.1)).mono ?_
   rintro e w11 ⟨A11, n11, c11, rfl, hqo, hb, hnc⟩
   have hsz1 := hid (show Wa16.heap.size ≤ w11.heap.size from hb.size)
   replace HX := hid (HX.out.step hb); replace PC := hid (PC.out.step hb); replace PZ := hid (PZ.out.step hb); replace HB := hid (below_then HB.out hb)
   clear hb
   have QT := hid hqo; have HNC := hid hnc; have HLO := hid (show w.heap.size ≤ Wa16.heap.size by have := hszd.out; have := hsz0.out; omega)
   clear hqo hnc
   have NE := hid (show 0 < n11 → ∀ b, A11 = some b → b.block ≠ gz from fun hn b hb2 e => by obtain ⟨b', off, e1, h4, _, _⟩ := QT.out.sm.row hn; rw [hb2] at e1; cases e1; have := HGZ.out; dsimp only at e; omega)
   have HQN := hid (show QeO w11 l (CS gc (some ⟨gQ, 0, none⟩) R) ⟨l', o', A11, n11, c11⟩ from QeO.fresh QT.out (by have := HX.out.lg; have := hlw.out; have := HLO.out; omega) HNC.out (by have h7 := QT.out.sm.len; have := HLN.out; dsimp only at h7 ⊢; omega) HON.out (by have := hlw.out; have := HLO.out; omega) (fun b hb => by cases hb; have := hgQ.out; have := HLO.out; dsimp only; omega) (fun b hb => by have := HRL.out b hb; have := HLO.out; omega))
   clear QT HNC
   go_wp2_with fail
   clear hS
   refine ky hK ⟨PC.out.cells11.2.2.2.2.2.2.2.1, PC.out.cells11.2.2.2.2.2.2.2.2.1, (HX.out.q0 rfl HK.out HXX.out), (HX.out.q1 rfl HK.out HXX.out)⟩ fun hS => ?_
   clear hK K
   refine tk 12 hS ?_
   refine tk 13 hS ?_
   refine tk 14 hS ?_
   refine tk 15 hS ?_
   refine rdy [17] (csy (fun K hK => ?_) AllReadyH.nil)
   obtain ⟨y00, y01, yf0⟩ := PZ.out.cells2
   go_simp
   clear y00 y01 yf0
   refine named_store2 PZ.out ?_
   intro Ws17 hbk hgr hsz
   have hsz2 := hid hsz
   clear hsz
   have HB0 := hid (HB.out.grown hgr HB.out.size (fun r e => by cases e; exact HGW.out))
   replace HX := hid (HX.out.turn PZ.out (by decide) (by decide) (by decide) (fun b hb => by have := HLT.out.1 b hb; have := HGW.out; omega) (fun y hy hn b hb => by have := HLT.out.2 y hy hn b hb; have := HGW.out; omega) hgr)
   replace PC := hid (PC.out.grown hgr (by have := hlw.out; have := HGW.out; simp; omega))
   replace HQN := hid (show QeO Ws17 l (CS gc (some ⟨gQ, 0, none⟩) R) _ from ⟨HQN.out.1.keptP (GrownP.ofGrown (p := fun i => i = gz) hgr rfl) (fun hn b hb e => NE.out hn b hb e), HQN.out.2⟩)
   replace HB := HB0
   clear HB0 NE
   replace PZ := hid hbk
   clear hbk hgr
   clear hS
   refine ky hK ⟨PC.out.cells11.2.2.2.2.2.2.2.1, PC.out.cells11.2.2.2.2.2.2.2.2.1, (HX.out.q0 rfl HK.out HXX.out), (HX.out.q1 rfl HK.out HXX.out)⟩ fun hS => ?_
   clear hK K
   refine tk 18 hS ?_
   refine tk 19 hS ?_
   refine wpAnyH_done (by kernel_rfl) ?_ _
   refine NoPanic.normal ?_
   clear hS
   obtain ⟨y00, y01, yf0⟩ := PZ.out.cells2
   go_wp2_with fail
   clear y00 y01 yf0
   refine (rneed_yes 0 _).mono ?_
   rintro e v1 ⟨rfl, rfl⟩
   go_upto_region 2 with fail
   have HG := hid (GrownP.ofBelow (p := CS gc (some ⟨gQ, 0, none⟩) R) HB.out)
   clear HB hszd hsz0 hsz1
   have bx := (Below.refl v1.heap.size v1).drew
   replace HX := hid (HX.out.step bx); replace PC := hid (PC.out.step bx); replace PZ := hid (PZ.out.step bx); replace HQN := hid (HQN.out.step bx); replace HG := hid (HG.out.step bx)
   clear bx
   have hszd := hid (show v1.drew.heap.size = v1.heap.size from rfl)
   refine wp_region_noPanic ?_
   refine wp_region_held_tail 20 (fun W' : World => W'.cell? ⟨gc, 7, none⟩ = some (.slice (some ⟨gQ, 0, none⟩) nq kq) ∧ W'.cell? ⟨gc, 8, none⟩ = some (.int .i64 cp) ∧ W'.cell? ⟨gc, 10, none⟩ = some (.slice R nr kr) ∧ W'.cell? ⟨gz, 0, none⟩ = some (.slice A11 n11 c11) ∧ W'.cell? ⟨gz, 1, none⟩ = some (.int .u64 o')) #[false, false, false, false, false, false, false, false, false, false, false, false, false, false, false, false, false, false, false, false, false, false, false] (by kernel_rfl) ⟨PC.out.cells11.2.2.2.2.2.2.2.1, PC.out.cells11.2.2.2.2.2.2.2.2.1, PC.out.cells11.2.2.2.2.2.2.2.2.2.2.1, PZ.out.cells2.1, PZ.out.cells2.2.1⟩ (by kernel_rfl) (by kernel_rfl) (fun hS => ?_)
   generalize v1.drew = Wd at *
   refine tkT 0 hS ?_
   refine tkT 1 hS ?_
   refine tkT 2 hS ?_
   refine tkT 3 hS ?_
   refine tkT 4 hS ?_
   refine tkT 5 hS ?_
   refine tkT 6 hS ?_
   refine tkT 7 hS ?_
   refine tkT 8 hS ?_
   refine tkT 9 hS ?_
   refine tkT 10 hS ?_
   refine tkT 11 hS ?_
   refine tkT 12 hS ?_
   refine tkT 13 hS ?_
   refine tkT 14 hS ?_
   refine tkT 15 hS ?_
   refine rdyT [16] (csyT (fun K hK => ?_) AllReadyT.nil)
   go_simp
   refine named_alloc ?_
   intro Wa16 hbk hb hsz
   have hsz0 := hid hsz
   obtain ⟨gv, hgv⟩ : ∃ z, z = Wd.heap.size := ⟨_, rfl⟩
   rw [← hgv] at hbk ⊢
   clear hgv
   replace HX := hid (HX.out.step hb); replace PC := hid (PC.out.step hb); replace PZ := hid (PZ.out.step hb); replace HQN := hid (HQN.out.step hb); replace HG := hid (HG.out.step hb)
   have PV := hid hbk
   clear hb hbk hsz
   clear hS
   refine kyT hK ⟨PC.out.cells11.2.2.2.2.2.2.2.1, PC.out.cells11.2.2.2.2.2.2.2.2.1, PC.out.cells11.2.2.2.2.2.2.2.2.2.2.1, PZ.out.cells2.1, PZ.out.cells2.2.1⟩ fun hS => ?_
   clear hK K
   refine rdyT [17] (csyT (fun K hK => ?_) AllReadyT.nil)
   refine step_app u64v 0 _ rfl _ _ 40 rfl l 35 i0 _ 8 Tryz.underlying40 hi0 hz00 hz01 hz02 rfl R nr kr ran rfl HX.out.rn 0 _ (some ⟨gv, 0, none⟩) 1 1 [v] rfl ((PV.out.ow (enc := u64v) (xs := [v]) (lo := 0) rfl rfl (Nat.zero_le _) (by simp [maxLen])).sl (d := 0)) (fun _ => rfl) (by have := HNR.out; simp only [maxLen]; omega) (by have := HNR.out; omega) (by have := HX.out.lg; have := PC.out.lt; omega) ?_
   intro A17 c17 Wc17 hown hgr hat
   replace HQN := hid (HQN.out.app HX.out.rn hgr hat)
   replace PC := hid (PC.out.keptO HX.out.rn (by decide) hgr)
   replace PZ := hid (PZ.out.keptO HX.out.rn (by decide) hgr)
   replace HG := hid (HG.out.thenG hgr (fun r e => by obtain ⟨b, hb, hbb⟩ := own_addr e; exact .inr (.inr (.inr ⟨b, hb, hbb.symm⟩))))
   replace HX := hid (HX.out.app hown hgr hat)
   clear hown hgr hat PV
   clear hS
   refine kyT hK ⟨PC.out.cells11.2.2.2.2.2.2.2.1, PC.out.cells11.2.2.2.2.2.2.2.2.1, PC.out.cells11.2.2.2.2.2.2.2.2.2.2.1, PZ.out.cells2.1, PZ.out.cells2.2.1⟩ fun hS => ?_
   clear hK K
   refine tkT 18 hS ?_
   refine rdyT [19] (csyT (fun K hK => ?_) AllReadyT.nil)
   obtain ⟨g2, hg2, q0, q1, qf, _⟩ := HX.out.q_at HK.out
   cases hg2
   go_simp
   clear q0 q1 qf
   have hgr := grown_set (grown_set (World.grownBy.refl Wc17 (some gQ)) (cp * 2) (.slice A11 n11 c11)) (cp * 2 + 1) (.int .u64 o')
   replace HX := hid (show CX ((Wc17.setCell ⟨gQ, cp * 2, none⟩ (.slice A11 n11 c11)).setCell ⟨gQ, cp * 2 + 1, none⟩ (.int .u64 o')) _ _ _ _ _ _ _ _ _ _ from HX.out.put rfl HK.out ⟨l', o', A11, n11, c11⟩ HQN.out)
   replace PC := hid (PC.out.grown hgr (by have := hcq.out; simpa using this))
   replace PZ := hid (PZ.out.grown hgr (by have := hgQ.out; have := HGW.out; simp; omega))
   replace HG := hid (HG.out.thenG hgr (fun r e => by cases e; exact .inr (.inr (.inl ⟨_, rfl, rfl⟩))))
   clear hgr HQN
   generalize (Wc17.setCell ⟨gQ, cp * 2, none⟩ (.slice A11 n11 c11)).setCell ⟨gQ, cp * 2 + 1, none⟩ (.int .u64 o') = Wc19 at *
   clear hS
   refine kyT hK ⟨PC.out.cells11.2.2.2.2.2.2.2.1, PC.out.cells11.2.2.2.2.2.2.2.2.1, PC.out.cells11.2.2.2.2.2.2.2.2.2.2.1, PZ.out.cells2.1, PZ.out.cells2.2.1⟩ fun hS => ?_
   clear hK K
   refine wpAnyT_done (by kernel_rfl) ?_
   simp only [List.drop_succ_cons, List.drop_zero]
   clear hS
   obtain ⟨y0, y1, y2, y3, y4, y5, y6, y7, y8, y9, y10, yf⟩ := PC.out.cells11
   go_wp2_with fail
   refine NoPanic.normal ?_
   clear y0 y1 y2 y3 y4 y5 y6 y7 y8 y9 y10 yf
   (try go_end0)
   have hgr := grown_set (World.grownBy.refl Wc19 (some gc)) 10 (.slice A17 (nr + 1) c17)
   refine ⟨rfl, ⟨A17, c17, A11, n11, c11, (HX.out.boxed PC.out hgr).ca (PC.out.setCell 10 _)⟩, HG.out.thenG hgr (fun r e => by cases e; exact .inr (.inl rfl))⟩
set_option maxRecDepth 100000 in
set_option maxHeartbeats 8000000 in
theorem rrun_no (l gc : Nat) (s : St) (g : Gr) (es : List Qe) (cp : Nat) (what : Int) (ran : List Int) (a : Ra) (R : Option Addr) (nr kr : Nat) (w : World) (h : CA w l gc s g es cp what ran a R nr kr) (hk : cp < a.nq) (hnq : a.nq ≤ 1000) (x : Qe) (hx : es[cp]?.getD zQe = x) (cd : Int) (ht : takeF x.o x.l = (0, [], 0, cd)) (hcd : cd ≠ 0) :
    Calls Tryz.prog 51 #[ptr gc] w fun x' w' => x' = leaves cd ∧ Below w.heap.size w w' := by
  have HLN := hid (show ([] : List Cb).length ≤ 1000 by simp); have HON := hid (show (0 : Int) ≤ 0 ∧ (0 : Int) ≤ 18446744073709551615 by omega)
  have HCD := hid hcd
  clear hcd
  obtain ⟨A, n, k, B, m, d, D, kd, Q, nq, kq⟩ := a
  obtain ⟨now, ns, os⟩ := s
  have hk : cp < nq := hk
  have hnq : nq ≤ 1000 := hnq
  have HB := hid (Below.refl w.heap.size w); have HX := hid h.cx; have PC := hid h.box
  obtain ⟨gQ, hQ, _, _, _, hmem⟩ := h.q_at hk
  have hQ : Q = some ⟨gQ, 0, none⟩ := hQ
  rw [hx] at hmem
  have HM := hid hmem; have HXX := hid hx; have HK := hid hk; have HLT := hid h.cx.lts; have HT := hid ht; have HQE := hid (h.qe x hmem); have hlw := hid (show gc < w.heap.size from h.box.lt)
  have HRL := hid (show ∀ b, R = some b → b.block < w.heap.size from fun b hb => by obtain ⟨_, cs, q⟩ := h.rn.blk b hb; exact q.lt)
  have hki : (cp : Int) < (nq : Int) := by omega
  clear h hk hx hmem ht
  subst hQ
  obtain ⟨xl, xo, xA, xn, xc⟩ := x
  dsimp only at HT HQE HM HXX
  have hgQ := hid (show gQ < w.heap.size from HLT.out.1 _ rfl)
  have hcq := hid (show gc ≠ gQ from fun e => HX.out.qs.ne_blk PC.out (by decide) _ rfl e.symm)
  go_enter Tryz.func51, Tryz.ntmps51
  go_upto_region 0 with fail
  have bx := (Below.refl w.heap.size w).drew
  replace HX := hid (HX.out.step bx); replace PC := hid (PC.out.step bx); replace HB := hid (below_then HB.out bx)
  clear bx
  have hszd := hid (show w.drew.heap.size = w.heap.size from rfl)
  refine wp_region_noPanic ?_
  refine wp_region_held_drew (S := (fun W' : World => W'.cell? ⟨gc, 7, none⟩ = some (.slice (some ⟨gQ, 0, none⟩) nq kq) ∧ W'.cell? ⟨gc, 8, none⟩ = some (.int .i64 cp) ∧ W'.cell? ⟨gQ, cp * 2, none⟩ = some (.slice xA xn xc) ∧ W'.cell? ⟨gQ, cp * 2 + 1, none⟩ = some (.int .u64 xo))) (by kernel_rfl) ⟨PC.out.cells11.2.2.2.2.2.2.2.1, PC.out.cells11.2.2.2.2.2.2.2.2.1, (HX.out.q0 rfl HK.out HXX.out), (HX.out.q1 rfl HK.out HXX.out)⟩ (fun hS => ?_)
  generalize w.drew = Wd at *
  refine tk 0 hS ?_
  refine tk 1 hS ?_
  refine tk 2 hS ?_
  refine tk 3 hS ?_
  refine tk 4 hS ?_
  refine tk 5 hS ?_
  refine tk 6 hS ?_
  refine tk 7 hS ?_
  refine tk 8 hS ?_
  refine tk 9 hS ?_
  refine tk 10 hS ?_
  refine rdy [11, 16] (csy (fun K hK => ?_) (csy (fun K hK => ?_) AllReadyH.nil))
  ·skip
   go_simp
   refine ((show Calls Tryz.prog 88 #[qv xA xn xc xo] _ (TkPost _ (0, [], 0, cd)) from HT.out ▸ qtake_any xA xn xc xo xl _ (HX.out.qsm HM.out) (by have := HQE.out.2.2.1; dsimp only at this; omega) HQE.out.2.2.2.1.1)).mono ?_
   rintro e w11 ⟨A11, n11, c11, rfl, hqo, hb, hnc⟩
   have hsz0 := hid (show Wd.heap.size ≤ w11.heap.size from hb.size)
   replace HX := hid (HX.out.step hb); replace PC := hid (PC.out.step hb); replace HB := hid (below_then HB.out hb)
   clear hb
   have QT := hid hqo; have HNC := hid hnc; have HLO := hid (show w.heap.size ≤ Wd.heap.size by have := hszd.out; omega)
   clear hqo hnc
   have HQN := hid (show QeO w11 l (CS gc (some ⟨gQ, 0, none⟩) R) ⟨[], 0, A11, n11, c11⟩ from QeO.fresh QT.out (by have := HX.out.lg; have := hlw.out; have := HLO.out; omega) HNC.out (by have h7 := QT.out.sm.len; have := HLN.out; dsimp only at h7 ⊢; omega) HON.out (by have := hlw.out; have := HLO.out; omega) (fun b hb => by cases hb; have := hgQ.out; have := HLO.out; dsimp only; omega) (fun b hb => by have := HRL.out b hb; have := HLO.out; omega))
   clear QT HNC
   go_wp2_with fail
   clear hS
   refine ky hK ⟨PC.out.cells11.2.2.2.2.2.2.2.1, PC.out.cells11.2.2.2.2.2.2.2.2.1, (HX.out.q0 rfl HK.out HXX.out), (HX.out.q1 rfl HK.out HXX.out)⟩ fun hS => ?_
   clear hK K
   refine tk 12 hS ?_
   refine tk 13 hS ?_
   refine tk 14 hS ?_
   refine tk 15 hS ?_
   refine rdy [16] (csy (fun K hK => ?_) AllReadyH.nil)
   go_simp
   refine named_alloc ?_
   intro Wa16 hbk hb hsz
   have hsz1 := hid hsz
   obtain ⟨gz, hgz⟩ : ∃ z, z = w11.heap.size := ⟨_, rfl⟩
   have HGZ := hid (show gz < Wa16.heap.size by omega)
   have HGW := hid (show w.heap.size ≤ gz by have := hszd.out; have := hsz0.out; have := hsz1.out; omega)
   rw [← hgz] at hbk ⊢
   have NE := hid (show 0 < n11 → ∀ b, A11 = some b → b.block ≠ gz from fun hn b hb2 e => by obtain ⟨b', off, e1, _, h4, _⟩ := HQN.out.1.sm.row hn; rw [hb2] at e1; cases e1; dsimp only at e; omega)
   clear hgz
   replace HX := hid (HX.out.step hb); replace PC := hid (PC.out.step hb); replace HQN := hid (HQN.out.step hb); replace HB := hid (below_then HB.out hb)
   have PZ := hid hbk
   clear hb hbk hsz
   clear hS
   refine ky hK ⟨PC.out.cells11.2.2.2.2.2.2.2.1, PC.out.cells11.2.2.2.2.2.2.2.2.1, (HX.out.q0 rfl HK.out HXX.out), (HX.out.q1 rfl HK.out HXX.out)⟩ fun hS => ?_
   clear hK K
   refine rdy [17] (csy (fun K hK => ?_) AllReadyH.nil)
   obtain ⟨y00, y01, yf0⟩ := PZ.out.cells2
   go_simp
   clear y00 y01 yf0
   refine named_store2 PZ.out ?_
   intro Ws17 hbk hgr hsz
   have hsz2 := hid hsz
   clear hsz
   have HB0 := hid (HB.out.grown hgr HB.out.size (fun r e => by cases e; exact HGW.out))
   replace HX := hid (HX.out.turn PZ.out (by decide) (by decide) (by decide) (fun b hb => by have := HLT.out.1 b hb; have := HGW.out; omega) (fun y hy hn b hb => by have := HLT.out.2 y hy hn b hb; have := HGW.out; omega) hgr)
   replace PC := hid (PC.out.grown hgr (by have := hlw.out; have := HGW.out; simp; omega))
   replace HQN := hid (show QeO Ws17 l (CS gc (some ⟨gQ, 0, none⟩) R) _ from ⟨HQN.out.1.keptP (GrownP.ofGrown (p := fun i => i = gz) hgr rfl) (fun hn b hb e => NE.out hn b hb e), HQN.out.2⟩)
   replace HB := HB0
   clear HB0 NE
   replace PZ := hid hbk
   clear hbk hgr
   clear hS
   refine ky hK ⟨PC.out.cells11.2.2.2.2.2.2.2.1, PC.out.cells11.2.2.2.2.2.2.2.2.1, (HX.out.q0 rfl HK.out HXX.out), (HX.out.q1 rfl HK.out HXX.out)⟩ fun hS => ?_
   clear hK K
   refine tk 18 hS ?_
   refine tk 19 hS ?_
   refine wpAnyH_done (by kernel_rfl) ?_ _
   refine NoPanic.normal ?_
   clear hS
   obtain ⟨y00, y01, yf0⟩ := PZ.out.cells2
   have d1 : (cd == 0) = false := by have := HCD.out; simpa using this
   go_wp2_with fail
   clear y00 y01 yf0
   refine (rneed_no cd _).mono ?_
   rintro e v1 ⟨rfl, rfl⟩
   unfold leaves
   go_wp2_with fail
   exact ⟨rfl, rfl, HB.out⟩
  ·skip
   go_simp
   refine named_alloc ?_
   intro Wa16 hbk hb hsz
   have hsz0 := hid hsz
   obtain ⟨gz, hgz⟩ : ∃ z, z = Wd.heap.size := ⟨_, rfl⟩
   have HGZ := hid (show gz < Wa16.heap.size by omega)
   have HGW := hid (show w.heap.size ≤ gz by have := hszd.out; have := hsz0.out; omega)
   rw [← hgz] at hbk ⊢
   clear hgz
   replace HX := hid (HX.out.step hb); replace PC := hid (PC.out.step hb); replace HB := hid (below_then HB.out hb)
   have PZ := hid hbk
   clear hb hbk hsz
   clear hS
   refine ky hK ⟨PC.out.cells11.2.2.2.2.2.2.2.1, PC.out.cells11.2.2.2.2.2.2.2.2.1, (HX.out.q0 rfl HK.out HXX.out), (HX.out.q1 rfl HK.out HXX.out)⟩ fun hS => ?_
   clear hK K
   refine rdy [11] (csy (fun K hK => ?_) AllReadyH.nil)
   go_simp
   refine ((show Calls Tryz.prog 88 #[qv xA xn xc xo] _ (TkPost _ (0, [], 0, cd)) from HT.out ▸ qtake_any xA xn xc xo xl _ (HX.out.qsm HM.out) (by have := HQE.out.2.2.1; dsimp only at this; omega) HQE.out.2.2.2.1.1)).mono ?_
   rintro e w11 ⟨A11, n11, c11, rfl, hqo, hb, hnc⟩
   have hsz1 := hid (show Wa16.heap.size ≤ w11.heap.size from hb.size)
   replace HX := hid (HX.out.step hb); replace PC := hid (PC.out.step hb); replace PZ := hid (PZ.out.step hb); replace HB := hid (below_then HB.out hb)
   clear hb
   have QT := hid hqo; have HNC := hid hnc; have HLO := hid (show w.heap.size ≤ Wa16.heap.size by have := hszd.out; have := hsz0.out; omega)
   clear hqo hnc
   have NE := hid (show 0 < n11 → ∀ b, A11 = some b → b.block ≠ gz from fun hn b hb2 e => by obtain ⟨b', off, e1, h4, _, _⟩ := QT.out.sm.row hn; rw [hb2] at e1; cases e1; have := HGZ.out; dsimp only at e; omega)
   have HQN := hid (show QeO w11 l (CS gc (some ⟨gQ, 0, none⟩) R) ⟨[], 0, A11, n11, c11⟩ from QeO.fresh QT.out (by have := HX.out.lg; have := hlw.out; have := HLO.out; omega) HNC.out (by have h7 := QT.out.sm.len; have := HLN.out; dsimp only at h7 ⊢; omega) HON.out (by have := hlw.out; have := HLO.out; omega) (fun b hb => by cases hb; have := hgQ.out; have := HLO.out; dsimp only; omega) (fun b hb => by have := HRL.out b hb; have := HLO.out; omega))
   clear QT HNC
   go_wp2_with fail
   clear hS
   refine ky hK ⟨PC.out.cells11.2.2.2.2.2.2.2.1, PC.out.cells11.2.2.2.2.2.2.2.2.1, (HX.out.q0 rfl HK.out HXX.out), (HX.out.q1 rfl HK.out HXX.out)⟩ fun hS => ?_
   clear hK K
   refine tk 12 hS ?_
   refine tk 13 hS ?_
   refine tk 14 hS ?_
   refine tk 15 hS ?_
   refine rdy [17] (csy (fun K hK => ?_) AllReadyH.nil)
   obtain ⟨y00, y01, yf0⟩ := PZ.out.cells2
   go_simp
   clear y00 y01 yf0
   refine named_store2 PZ.out ?_
   intro Ws17 hbk hgr hsz
   have hsz2 := hid hsz
   clear hsz
   have HB0 := hid (HB.out.grown hgr HB.out.size (fun r e => by cases e; exact HGW.out))
   replace HX := hid (HX.out.turn PZ.out (by decide) (by decide) (by decide) (fun b hb => by have := HLT.out.1 b hb; have := HGW.out; omega) (fun y hy hn b hb => by have := HLT.out.2 y hy hn b hb; have := HGW.out; omega) hgr)
   replace PC := hid (PC.out.grown hgr (by have := hlw.out; have := HGW.out; simp; omega))
   replace HQN := hid (show QeO Ws17 l (CS gc (some ⟨gQ, 0, none⟩) R) _ from ⟨HQN.out.1.keptP (GrownP.ofGrown (p := fun i => i = gz) hgr rfl) (fun hn b hb e => NE.out hn b hb e), HQN.out.2⟩)
   replace HB := HB0
   clear HB0 NE
   replace PZ := hid hbk
   clear hbk hgr
   clear hS
   refine ky hK ⟨PC.out.cells11.2.2.2.2.2.2.2.1, PC.out.cells11.2.2.2.2.2.2.2.2.1, (HX.out.q0 rfl HK.out HXX.out), (HX.out.q1 rfl HK.out HXX.out)⟩ fun hS => ?_
   clear hK K
   refine tk 18 hS ?_
   refine tk 19 hS ?_
   refine wpAnyH_done (by kernel_rfl) ?_ _
   refine NoPanic.normal ?_
   clear hS
   obtain ⟨y00, y01, yf0⟩ := PZ.out.cells2
   have d1 : (cd == 0) = false := by have := HCD.out; simpa using this
   go_wp2_with fail
   clear y00 y01 yf0
   refine (rneed_no cd _).mono ?_
   rintro e v1 ⟨rfl, rfl⟩
   unfold leaves
   go_wp2_with fail
   exact ⟨rfl, rfl, HB.out⟩
end Go.Proofs.YtfipdoofgbjbjaaGreat

/- package rcu: call. No condition but sizes. -/
namespace Go.Proofs.YtfipdoofgbjbjaaGreat
open Go.RowKit
attribute [local go_sem] Oper.semAt_some
theorem CX.regd {w : World} {l gc : Nat} {s : St} {g g' : Gr} {es : List Qe} {ran : List Int} {a : Ra} {R : Option Addr} {nr kr : Nat} (h : CX w l gc s g es ran a R nr kr) {D : Option Addr} {kd : Nat} (hd : Ow blv w l 4 D g'.nd.length kd g'.nd) : CX w l gc s g' es ran ⟨a.A, a.n, a.k, a.B, a.m, a.d, D, kd, a.Q, a.nq, a.kq⟩ R nr kr :=
  ⟨h.ro, hd, h.qs, h.rn, h.qe, h.lg⟩
set_option maxRecDepth 100000 in
set_option maxHeartbeats 2000000 in
theorem rcall_full (l gc : Nat) (s : St) (g : Gr) (es : List Qe) (cp : Nat) (what : Int) (ran : List Int) (a : Ra) (R : Option Addr) (nr kr : Nat) (w : World) (h : CA w l gc s g es cp what ran a R nr kr) (hk : cp < a.nq) (hnq : a.nq ≤ 1000) (x : Qe) (hx : es[cp]?.getD zQe = x) (hg : GrOk g) (hn : ¬ gNext g ≤ 2147483645) :
    Calls Tryz.prog 74 #[ptr gc] w fun x' w' => x' = leaves 6 ∧ Below w.heap.size w w' := by
  have HN := hid hn
  clear hn
  obtain ⟨A, n, k, B, m, d, D, kd, Q, nq, kq⟩ := a
  obtain ⟨now, ns, os⟩ := s
  have hk : cp < nq := hk
  have hnq : nq ≤ 1000 := hnq
  have HB := hid (Below.refl w.heap.size w); have HX := hid h.cx; have PC := hid h.box; have HGK := hid hg
  obtain ⟨gQ, hQ, _, _, _, hmem⟩ := h.q_at hk
  have hQ : Q = some ⟨gQ, 0, none⟩ := hQ
  rw [hx] at hmem
  have HM := hid hmem; have HXX := hid hx; have HK := hid hk; have HLT := hid h.cx.lts; have HQE := hid (h.qe x hmem); have hlw := hid (show gc < w.heap.size from h.box.lt)
  have HRL := hid (show ∀ b, R = some b → b.block < w.heap.size from fun b hb => by obtain ⟨_, cs, q⟩ := h.rn.blk b hb; exact q.lt)
  have hki : (cp : Int) < (nq : Int) := by omega
  clear h hk hx hmem hg
  subst hQ
  obtain ⟨xl, xo, xA, xn, xc⟩ := x
  dsimp only at HQE HM HXX
  have hgQ := hid (show gQ < w.heap.size from HLT.out.1 _ rfl)
  have hcq := hid (show gc ≠ gQ from fun e => HX.out.qs.ne_blk PC.out (by decide) _ rfl e.symm)
  go_enter Tryz.func74, Tryz.ntmps74
  obtain ⟨y0, y1, y2, y3, y4, y5, y6, y7, y8, y9, y10, yf⟩ := PC.out.cells11
  go_wp2_with fail
  clear y0 y1 y2 y3 y4 y5 y6 y7 y8 y9 y10 yf
  have hga := gask_any g D kd w ((HX.out.gd.sl (d := false)).mono (Nat.zero_le _) (Nat.le_refl _)) HGK.out
  rw [show gaskF g = (6, 0, zGr) from if_neg (by have := HN.out; omega)] at hga
  refine hga.mono ?_
  rintro e w1 ⟨D1, kd1, rfl, hd1, hb⟩
  clear hga hd1
  replace HX := hid (HX.out.step hb); replace PC := hid (PC.out.step hb); replace HB := hid (below_then HB.out hb)
  clear hb
  dsimp only
  go_wp2_with fail
  refine (rneed_no 6 _).mono ?_
  rintro e v1 ⟨rfl, rfl⟩
  unfold leaves
  go_wp2_with fail
  exact ⟨rfl, rfl, below_then HB.out (below_box _ _)⟩
set_option maxRecDepth 100000 in
set_option maxHeartbeats 8000000 in
theorem rcall_yes (l gc : Nat) (s : St) (g : Gr) (es : List Qe) (cp : Nat) (what : Int) (ran : List Int) (a : Ra) (R : Option Addr) (nr kr : Nat) (w : World) (h : CA w l gc s g es cp what ran a R nr kr) (hk : cp < a.nq) (hnq : a.nq ≤ 1000) (x : Qe) (hx : es[cp]?.getD zQe = x) (hg : GrOk g) (hn : gNext g ≤ 2147483645) (o' : Int) (l' : List Cb) (ht : putF x.o x.l what (gNext g - g.dn) = (o', l', 0)) (hon : 0 ≤ o' ∧ o' ≤ 18446744073709551615) (hln : l'.length ≤ 1000) :
    Calls Tryz.prog 74 #[ptr gc] w fun x' w' => x' = .returned (.tuple #[]) ∧ (∃ a', a'.Q = a.Q ∧ a'.nq = a.nq ∧ a'.kq = a.kq ∧ ∃ A n c, CA w' l gc s (gAsk g) (es.set cp ⟨l', o', A, n, c⟩) cp what ran a' R nr kr) ∧ GrownP (CS gc a.Q R) w w' := by
  have HN := hid hn; have HT := hid ht; have HLN := hid hln; have HON := hid hon
  clear hn ht hln hon
  obtain ⟨A, n, k, B, m, d, D, kd, Q, nq, kq⟩ := a
  obtain ⟨now, ns, os⟩ := s
  have hk : cp < nq := hk
  have hnq : nq ≤ 1000 := hnq
  have HB := hid (Below.refl w.heap.size w); have HX := hid h.cx; have PC := hid h.box; have HGK := hid hg
  obtain ⟨gQ, hQ, _, _, _, hmem⟩ := h.q_at hk
  have hQ : Q = some ⟨gQ, 0, none⟩ := hQ
  rw [hx] at hmem
  have HM := hid hmem; have HXX := hid hx; have HK := hid hk; have HLT := hid h.cx.lts; have HQE := hid (h.qe x hmem); have hlw := hid (show gc < w.heap.size from h.box.lt)
  have HRL := hid (show ∀ b, R = some b → b.block < w.heap.size from fun b hb => by obtain ⟨_, cs, q⟩ := h.rn.blk b hb; exact q.lt)
  have hki : (cp : Int) < (nq : Int) := by omega
  clear h hk hx hmem hg
  subst hQ
  obtain ⟨xl, xo, xA, xn, xc⟩ := x
  dsimp only at HQE HM HXX
  have hgQ := hid (show gQ < w.heap.size from HLT.out.1 _ rfl)
  have hcq := hid (show gc ≠ gQ from fun e => HX.out.qs.ne_blk PC.out (by decide) _ rfl e.symm)
  dsimp only at HT
  go_enter Tryz.func74, Tryz.ntmps74
  obtain ⟨y0, y1, y2, y3, y4, y5, y6, y7, y8, y9, y10, yf⟩ := PC.out.cells11
  go_wp2_with fail
  clear y0 y1 y2 y3 y4 y5 y6 y7 y8 y9 y10 yf
  have hga := gask_any g D kd w ((HX.out.gd.sl (d := false)).mono (Nat.zero_le _) (Nat.le_refl _)) HGK.out
  rw [show gaskF g = (0, gNext g, gAsk g) from if_pos HN.out] at hga
  obtain ⟨N, hNN⟩ : ∃ N, N = gNext g := ⟨_, rfl⟩
  obtain ⟨g1, hg1⟩ : ∃ g1, g1 = gAsk g := ⟨_, rfl⟩
  have HDN := hid (show g1.dn = g.dn by rw [hg1]; rfl)
  have HG1 := hid hg1; have HNN := hid hNN
  rw [← hNN, ← hg1] at hga
  clear hNN hg1
  refine hga.mono ?_
  rintro e w1 ⟨D1, kd1, rfl, hd1, hb⟩
  have DO := hid (hd1.mono (show l ≤ w.heap.size by have := HX.out.lg; have := hlw.out; omega))
  clear hga hd1
  replace HX := hid (HX.out.step hb); replace PC := hid (PC.out.step hb); replace HB := hid (below_then HB.out hb)
  clear hb
  dsimp only
  have HZ1 := hid HB.out.size
  have bx := below_box w1 (.cells #[.int .i64 g1.dn, .int .i64 g1.ak, .bool g1.on, .slice D1 g1.nd.length kd1] 27)
  replace HX := hid (HX.out.step bx); replace PC := hid (PC.out.step bx); replace DO := hid (DO.out.step bx); replace HB := hid (below_then HB.out bx)
  clear bx
  have PG := hid (Blk.new w1 27 #[.int .i64 g1.dn, .int .i64 g1.ak, .bool g1.on, .slice D1 g1.nd.length kd1])
  go_wp2_with fail
  generalize w1.alloc (.cells #[.int .i64 g1.dn, .int .i64 g1.ak, .bool g1.on, .slice D1 g1.nd.length kd1] 27) = W1 at *
  refine (rneed_yes 0 _).mono ?_
  rintro e v1 ⟨rfl, rfl⟩
  have HZV := hid (show w1.heap.size ≤ v1.heap.size from Nat.le_of_lt PG.out.lt)
  go_upto_region 2 with fail
  skip
  rw [← HNN.out, ← HDN.out] at HT
  obtain ⟨ah, hah⟩ : ∃ x, x = N - g1.dn := ⟨_, rfl⟩
  rw [← hah] at HT
  have hN2 : N ≤ 2147483645 ∧ 0 ≤ g1.dn ∧ g1.dn ≤ 2147483645 ∧ 0 ≤ N := by
    have h1 := HN.out; have h2 := HNN.out; have h3 := HGK.out.small; have h4 := HDN.out
    have h5 : g.dn ≤ gNext g := by unfold gNext; split <;> omega
    omega
  have hw1 : IntKind.i64.wrap (N - g1.dn) = ah := by rw [IntKind.wrap_i64]; omega
  have hw2 : wrap64 (N - g1.dn) = ah := by unfold wrap64; omega
  have HAH := hid hah
  clear hah hN2
  have bx := (Below.refl v1.heap.size v1).drew
  replace HX := hid (HX.out.step bx); replace PC := hid (PC.out.step bx); replace DO := hid (DO.out.step bx); replace PG := hid (PG.out.step bx); replace HB := hid (below_then HB.out bx)
  clear bx
  have hszd := hid (show v1.drew.heap.size = v1.heap.size from rfl)
  refine wp_region_noPanic ?_
  refine wp_region_held_tail 32 (fun W' : World => W'.cell? ⟨gc, 7, none⟩ = some (.slice (some ⟨gQ, 0, none⟩) nq kq) ∧ W'.cell? ⟨gc, 8, none⟩ = some (.int .i64 cp) ∧ W'.cell? ⟨gc, 9, none⟩ = some (.int .u64 what) ∧ W'.cell? ⟨w1.heap.size, 0, none⟩ = some (.int .i64 g1.dn) ∧ W'.cell? ⟨gQ, cp * 2, none⟩ = some (.slice xA xn xc) ∧ W'.cell? ⟨gQ, cp * 2 + 1, none⟩ = some (.int .u64 xo)) #[false, false, false, false, false, false, false, false, false, false, false, false, false, false, false, false, false, false, false, false, false, false, false, false, false, false, false, false, false, false, false, false, false, false] (by kernel_rfl) ⟨PC.out.cells11.2.2.2.2.2.2.2.1, PC.out.cells11.2.2.2.2.2.2.2.2.1, PC.out.cells11.2.2.2.2.2.2.2.2.2.1, PG.out.cells4.1, (HX.out.q0 rfl HK.out HXX.out), (HX.out.q1 rfl HK.out HXX.out)⟩ (by kernel_rfl) (by kernel_rfl) (fun hS => ?_)
  generalize v1.drew = Wd at *
  refine tkT 0 hS ?_
  refine tkT 1 hS ?_
  refine tkT 2 hS ?_
  refine tkT 3 hS ?_
  refine tkT 4 hS ?_
  refine tkT 5 hS ?_
  refine tkT 6 hS ?_
  refine tkT 7 hS ?_
  refine tkT 8 hS ?_
  refine tkT 9 hS ?_
  refine tkT 10 hS ?_
  refine tkT 11 hS ?_
  refine tkT 12 hS ?_
  refine tkT 13 hS ?_
  refine tkT 14 hS ?_
  refine tkT 15 hS ?_
  refine tkT 16 hS ?_
  refine tkT 17 hS ?_
  refine tkT 18 hS ?_
  refine tkT 19 hS ?_
  refine tkT 20 hS ?_
  refine tkT 21 hS ?_
  refine tkT 22 hS ?_
  refine tkT 23 hS ?_
  refine tkT 24 hS ?_
  refine tkT 25 hS ?_
  refine tkT 26 hS ?_
  refine tkT 27 hS ?_
  refine rdyT [28] (csyT (fun K hK => ?_) AllReadyT.nil)
  go_simp
  refine ((show Calls Tryz.prog 118 #[qv xA xn xc xo, .int .u64 what, .int .i64 ah] _ (QPost _ (o', l', 0)) from HT.out ▸ qput_any xA xn xc xo xl what ah _ (HX.out.qsm HM.out) (by have := HQE.out.2.2.1; dsimp only at this; omega) HQE.out.2.2.2.1.1 HQE.out.2.1)).mono ?_
  rintro e w28 ⟨A11, n11, c11, rfl, hqo, hb, hnc⟩
  have hsz0 := hid (show Wd.heap.size ≤ w28.heap.size from hb.size)
  replace HX := hid (HX.out.step hb); replace PC := hid (PC.out.step hb); replace DO := hid (DO.out.step hb); replace PG := hid (PG.out.step hb); replace HB := hid (below_then HB.out hb)
  clear hb
  have HQN := hid (show QeO w28 l (CS gc (some ⟨gQ, 0, none⟩) R) ⟨l', o', A11, n11, c11⟩ from QeO.fresh hqo (by have := HX.out.lg; have := hlw.out; have := HZ1.out; have := HZV.out; have := hszd.out; omega) hnc (by have h7 := hqo.sm.len; have := HLN.out; dsimp only at h7 ⊢; omega) HON.out (by have := hlw.out; have := HZ1.out; have := HZV.out; have := hszd.out; omega) (fun b hb => by cases hb; have := hgQ.out; have := HZ1.out; have := HZV.out; have := hszd.out; dsimp only; omega) (fun b hb => by have := HRL.out b hb; have := HZ1.out; have := HZV.out; have := hszd.out; omega))
  clear hqo hnc
  go_wp2_with fail
  clear hS
  refine kyT hK ⟨PC.out.cells11.2.2.2.2.2.2.2.1, PC.out.cells11.2.2.2.2.2.2.2.2.1, PC.out.cells11.2.2.2.2.2.2.2.2.2.1, PG.out.cells4.1, (HX.out.q0 rfl HK.out HXX.out), (HX.out.q1 rfl HK.out HXX.out)⟩ fun hS => ?_
  clear hK K
  refine tkT 29 hS ?_
  refine tkT 30 hS ?_
  refine rdyT [31] (csyT (fun K hK => ?_) AllReadyT.nil)
  go_simp
  refine (sureQ_yes A11 n11 c11 o' _).mono ?_
  rintro e w31 ⟨rfl, hb⟩
  have hsz1 := hid (show w28.heap.size ≤ w31.heap.size from hb.size)
  replace HX := hid (HX.out.step hb); replace PC := hid (PC.out.step hb); replace DO := hid (DO.out.step hb); replace PG := hid (PG.out.step hb); replace HQN := hid (HQN.out.step hb); replace HB := hid (below_then HB.out hb)
  clear hb
  go_wp2_with fail
  clear hS
  refine kyT hK ⟨PC.out.cells11.2.2.2.2.2.2.2.1, PC.out.cells11.2.2.2.2.2.2.2.2.1, PC.out.cells11.2.2.2.2.2.2.2.2.2.1, PG.out.cells4.1, (HX.out.q0 rfl HK.out HXX.out), (HX.out.q1 rfl HK.out HXX.out)⟩ fun hS => ?_
  clear hK K
  refine wpAnyT_done (by kernel_rfl) ?_
  simp only [List.drop_succ_cons, List.drop_zero]
  clear hS
  have HG := hid (GrownP.ofBelow (p := CS gc (some ⟨gQ, 0, none⟩) R) HB.out)
  have HGZ := hid (show w.heap.size ≤ w1.heap.size from HZ1.out)
  clear HB
  obtain ⟨g2, hg2, q0, q1, qf, _⟩ := HX.out.q_at HK.out
  cases hg2
  go_wp2_with fail
  refine NoPanic.normal ?_
  clear q0 q1 qf
  have hgr := grown_set (grown_set (World.grownBy.refl w31 (some gQ)) (cp * 2) (.slice A11 n11 c11)) (cp * 2 + 1) (.int .u64 o')
  replace DO := hid (DO.out.keptG hgr (fun b hb e => by obtain ⟨_, cs, hbb⟩ := HX.out.qs.blk _ rfl; exact DO.out.ne_blk hbb (by decide) b hb (Option.some.inj e)))
  replace HX := hid (show CX ((w31.setCell ⟨gQ, cp * 2, none⟩ (.slice A11 n11 c11)).setCell ⟨gQ, cp * 2 + 1, none⟩ (.int .u64 o')) _ _ _ _ _ _ _ _ _ _ from HX.out.put rfl HK.out ⟨l', o', A11, n11, c11⟩ HQN.out)
  replace PC := hid (PC.out.grown hgr (by have := hcq.out; simpa using this))
  replace PG := hid (PG.out.grown hgr (by have := hgQ.out; have := HGZ.out; simp; omega))
  replace HG := hid (HG.out.thenG hgr (fun r e => by cases e; exact .inr (.inr (.inl ⟨_, rfl, rfl⟩))))
  clear hgr HQN
  generalize (w31.setCell ⟨gQ, cp * 2, none⟩ (.slice A11 n11 c11)).setCell ⟨gQ, cp * 2 + 1, none⟩ (.int .u64 o') = W2 at *
  obtain ⟨y0, y1, y2, y3, y4, y5, y6, y7, y8, y9, y10, yf⟩ := PC.out.cells11
  obtain ⟨y00, y01, y02, y03, yf0⟩ := PG.out.cells4
  go_wp2_with fail
  clear y00 y01 y02 y03 yf0 y0 y1 y2 y3 y4 y5 y6 y7 y8 y9 y10 yf
  (try go_end0)
  have hgr := (grown_set (grown_set (grown_set (grown_set (World.grownBy.refl W2 (some gc)) 3 (.int .i64 g1.dn)) 4 (.int .i64 g1.ak)) 5 (.bool g1.on)) 6 (.slice D1 g1.nd.length kd1))
  refine ⟨rfl, ⟨⟨A, n, k, B, m, d, D1, kd1, some ⟨gQ, 0, none⟩, nq, kq⟩, rfl, rfl, rfl, A11, n11, c11, ?_⟩, HG.out.thenG hgr (fun r e => by cases e; exact .inr (.inl rfl))⟩
  rw [← HG1.out]
  exact ((HX.out.regd DO.out).boxed PC.out hgr).ca ((((PC.out.setCell 3 (.int .i64 g1.dn)).setCell 4 (.int .i64 g1.ak)).setCell 5 (.bool g1.on)).setCell 6 (.slice D1 g1.nd.length kd1))
set_option maxRecDepth 100000 in
set_option maxHeartbeats 8000000 in
theorem rcall_err (l gc : Nat) (s : St) (g : Gr) (es : List Qe) (cp : Nat) (what : Int) (ran : List Int) (a : Ra) (R : Option Addr) (nr kr : Nat) (w : World) (h : CA w l gc s g es cp what ran a R nr kr) (hk : cp < a.nq) (hnq : a.nq ≤ 1000) (x : Qe) (hx : es[cp]?.getD zQe = x) (hg : GrOk g) (hn : gNext g ≤ 2147483645) (cd : Int) (ht : putF x.o x.l what (gNext g - g.dn) = (0, [], cd)) (hcd : cd ≠ 0) :
    Calls Tryz.prog 74 #[ptr gc] w fun x' w' => x' = leaves cd ∧ Below w.heap.size w w' := by
  have HN := hid hn; have HT := hid ht; have HCD := hid hcd
  clear hn ht hcd
  obtain ⟨A, n, k, B, m, d, D, kd, Q, nq, kq⟩ := a
  obtain ⟨now, ns, os⟩ := s
  have hk : cp < nq := hk
  have hnq : nq ≤ 1000 := hnq
  have HB := hid (Below.refl w.heap.size w); have HX := hid h.cx; have PC := hid h.box; have HGK := hid hg
  obtain ⟨gQ, hQ, _, _, _, hmem⟩ := h.q_at hk
  have hQ : Q = some ⟨gQ, 0, none⟩ := hQ
  rw [hx] at hmem
  have HM := hid hmem; have HXX := hid hx; have HK := hid hk; have HLT := hid h.cx.lts; have HQE := hid (h.qe x hmem); have hlw := hid (show gc < w.heap.size from h.box.lt)
  have HRL := hid (show ∀ b, R = some b → b.block < w.heap.size from fun b hb => by obtain ⟨_, cs, q⟩ := h.rn.blk b hb; exact q.lt)
  have hki : (cp : Int) < (nq : Int) := by omega
  clear h hk hx hmem hg
  subst hQ
  obtain ⟨xl, xo, xA, xn, xc⟩ := x
  dsimp only at HQE HM HXX
  have hgQ := hid (show gQ < w.heap.size from HLT.out.1 _ rfl)
  have hcq := hid (show gc ≠ gQ from fun e => HX.out.qs.ne_blk PC.out (by decide) _ rfl e.symm)
  dsimp only at HT
  go_enter Tryz.func74, Tryz.ntmps74
  obtain ⟨y0, y1, y2, y3, y4, y5, y6, y7, y8, y9, y10, yf⟩ := PC.out.cells11
  go_wp2_with fail
  clear y0 y1 y2 y3 y4 y5 y6 y7 y8 y9 y10 yf
  have hga := gask_any g D kd w ((HX.out.gd.sl (d := false)).mono (Nat.zero_le _) (Nat.le_refl _)) HGK.out
  rw [show gaskF g = (0, gNext g, gAsk g) from if_pos HN.out] at hga
  obtain ⟨N, hNN⟩ : ∃ N, N = gNext g := ⟨_, rfl⟩
  obtain ⟨g1, hg1⟩ : ∃ g1, g1 = gAsk g := ⟨_, rfl⟩
  have HDN := hid (show g1.dn = g.dn by rw [hg1]; rfl)
  have HG1 := hid hg1; have HNN := hid hNN
  rw [← hNN, ← hg1] at hga
  clear hNN hg1
  refine hga.mono ?_
  rintro e w1 ⟨D1, kd1, rfl, hd1, hb⟩
  have DO := hid (hd1.mono (show l ≤ w.heap.size by have := HX.out.lg; have := hlw.out; omega))
  clear hga hd1
  replace HX := hid (HX.out.step hb); replace PC := hid (PC.out.step hb); replace HB := hid (below_then HB.out hb)
  clear hb
  dsimp only
  have HZ1 := hid HB.out.size
  have bx := below_box w1 (.cells #[.int .i64 g1.dn, .int .i64 g1.ak, .bool g1.on, .slice D1 g1.nd.length kd1] 27)
  replace HX := hid (HX.out.step bx); replace PC := hid (PC.out.step bx); replace DO := hid (DO.out.step bx); replace HB := hid (below_then HB.out bx)
  clear bx
  have PG := hid (Blk.new w1 27 #[.int .i64 g1.dn, .int .i64 g1.ak, .bool g1.on, .slice D1 g1.nd.length kd1])
  go_wp2_with fail
  generalize w1.alloc (.cells #[.int .i64 g1.dn, .int .i64 g1.ak, .bool g1.on, .slice D1 g1.nd.length kd1] 27) = W1 at *
  refine (rneed_yes 0 _).mono ?_
  rintro e v1 ⟨rfl, rfl⟩
  have HZV := hid (show w1.heap.size ≤ v1.heap.size from Nat.le_of_lt PG.out.lt)
  go_upto_region 2 with fail
  skip
  rw [← HNN.out, ← HDN.out] at HT
  obtain ⟨ah, hah⟩ : ∃ x, x = N - g1.dn := ⟨_, rfl⟩
  rw [← hah] at HT
  have hN2 : N ≤ 2147483645 ∧ 0 ≤ g1.dn ∧ g1.dn ≤ 2147483645 ∧ 0 ≤ N := by
    have h1 := HN.out; have h2 := HNN.out; have h3 := HGK.out.small; have h4 := HDN.out
    have h5 : g.dn ≤ gNext g := by unfold gNext; split <;> omega
    omega
  have hw1 : IntKind.i64.wrap (N - g1.dn) = ah := by rw [IntKind.wrap_i64]; omega
  have hw2 : wrap64 (N - g1.dn) = ah := by unfold wrap64; omega
  clear hah hN2
  have bx := (Below.refl v1.heap.size v1).drew
  replace HX := hid (HX.out.step bx); replace PC := hid (PC.out.step bx); replace DO := hid (DO.out.step bx); replace PG := hid (PG.out.step bx); replace HB := hid (below_then HB.out bx)
  clear bx
  have hszd := hid (show v1.drew.heap.size = v1.heap.size from rfl)
  refine wp_region_qp ?_
  refine wp_region_held_drew (S := (fun W' : World => W'.cell? ⟨gc, 7, none⟩ = some (.slice (some ⟨gQ, 0, none⟩) nq kq) ∧ W'.cell? ⟨gc, 8, none⟩ = some (.int .i64 cp) ∧ W'.cell? ⟨gc, 9, none⟩ = some (.int .u64 what) ∧ W'.cell? ⟨w1.heap.size, 0, none⟩ = some (.int .i64 g1.dn) ∧ W'.cell? ⟨gQ, cp * 2, none⟩ = some (.slice xA xn xc) ∧ W'.cell? ⟨gQ, cp * 2 + 1, none⟩ = some (.int .u64 xo))) (by kernel_rfl) ⟨PC.out.cells11.2.2.2.2.2.2.2.1, PC.out.cells11.2.2.2.2.2.2.2.2.1, PC.out.cells11.2.2.2.2.2.2.2.2.2.1, PG.out.cells4.1, (HX.out.q0 rfl HK.out HXX.out), (HX.out.q1 rfl HK.out HXX.out)⟩ (fun hS => ?_)
  generalize v1.drew = Wd at *
  refine tk 0 hS ?_ (hQ := fun _ _ _ h => QP.put h)
  refine tk 1 hS ?_ (hQ := fun _ _ _ h => QP.put h)
  refine tk 2 hS ?_ (hQ := fun _ _ _ h => QP.put h)
  refine tk 3 hS ?_ (hQ := fun _ _ _ h => QP.put h)
  refine tk 4 hS ?_ (hQ := fun _ _ _ h => QP.put h)
  refine tk 5 hS ?_ (hQ := fun _ _ _ h => QP.put h)
  refine tk 6 hS ?_ (hQ := fun _ _ _ h => QP.put h)
  refine tk 7 hS ?_ (hQ := fun _ _ _ h => QP.put h)
  refine tk 8 hS ?_ (hQ := fun _ _ _ h => QP.put h)
  refine tk 9 hS ?_ (hQ := fun _ _ _ h => QP.put h)
  refine tk 10 hS ?_ (hQ := fun _ _ _ h => QP.put h)
  refine tk 11 hS ?_ (hQ := fun _ _ _ h => QP.put h)
  refine tk 12 hS ?_ (hQ := fun _ _ _ h => QP.put h)
  refine tk 13 hS ?_ (hQ := fun _ _ _ h => QP.put h)
  refine tk 14 hS ?_ (hQ := fun _ _ _ h => QP.put h)
  refine tk 15 hS ?_ (hQ := fun _ _ _ h => QP.put h)
  refine tk 16 hS ?_ (hQ := fun _ _ _ h => QP.put h)
  refine tk 17 hS ?_ (hQ := fun _ _ _ h => QP.put h)
  refine tk 18 hS ?_ (hQ := fun _ _ _ h => QP.put h)
  refine tk 19 hS ?_ (hQ := fun _ _ _ h => QP.put h)
  refine tk 20 hS ?_ (hQ := fun _ _ _ h => QP.put h)
  refine tk 21 hS ?_ (hQ := fun _ _ _ h => QP.put h)
  refine tk 22 hS ?_ (hQ := fun _ _ _ h => QP.put h)
  refine tk 23 hS ?_ (hQ := fun _ _ _ h => QP.put h)
  refine tk 24 hS ?_ (hQ := fun _ _ _ h => QP.put h)
  refine tk 25 hS ?_ (hQ := fun _ _ _ h => QP.put h)
  refine tk 26 hS ?_ (hQ := fun _ _ _ h => QP.put h)
  refine tk 27 hS ?_ (hQ := fun _ _ _ h => QP.put h)
  refine rdy [28] (csy (fun K hK => ?_) AllReadyH.nil)
  go_simp
  refine ((show Calls Tryz.prog 118 #[qv xA xn xc xo, .int .u64 what, .int .i64 ah] _ (QPost _ (0, [], cd)) from HT.out ▸ qput_any xA xn xc xo xl what ah _ (HX.out.qsm HM.out) (by have := HQE.out.2.2.1; dsimp only at this; omega) HQE.out.2.2.2.1.1 HQE.out.2.1)).mono ?_
  rintro e w28 ⟨A11, n11, c11, rfl, hqo, hb, hnc⟩
  have hsz0 := hid (show Wd.heap.size ≤ w28.heap.size from hb.size)
  replace HX := hid (HX.out.step hb); replace PC := hid (PC.out.step hb); replace DO := hid (DO.out.step hb); replace PG := hid (PG.out.step hb); replace HB := hid (below_then HB.out hb)
  clear hb
  clear hqo hnc
  go_wp2_with fail
  clear hS
  refine ky hK ⟨PC.out.cells11.2.2.2.2.2.2.2.1, PC.out.cells11.2.2.2.2.2.2.2.2.1, PC.out.cells11.2.2.2.2.2.2.2.2.2.1, PG.out.cells4.1, (HX.out.q0 rfl HK.out HXX.out), (HX.out.q1 rfl HK.out HXX.out)⟩ fun hS => ?_
  clear hK K
  refine tk 29 hS ?_ (hQ := fun _ _ _ h => QP.put h)
  refine tk 30 hS ?_ (hQ := fun _ _ _ h => QP.put h)
  refine rdy [31] (csy (fun K hK => ?_) AllReadyH.nil)
  go_simp
  refine (sureQ_no A11 n11 c11 0 cd w28 HCD.out).mono ?_
  rintro e Wp ⟨rfl, hb⟩
  unfold leaves
  intro tm
  have hfin : ({ tmps := tm, defers := [] } : Act).defers = [] ∧ (leaves cd = leaves cd ∧ Below w.heap.size w Wp) := ⟨rfl, rfl, below_then HB.out hb⟩
  exact hfin
end Go.Proofs.YtfipdoofgbjbjaaGreat
