/- package rcu: tries. No condition but sizes, and that numbers are of their kinds. -/
import Derived.Test.YtfipdoofgbjbjaaRc2
import Derived.Test.YtfipdoofgbjbjaaRc3
import Derived.Test.YtfipdoofgbjbjaaKitA
namespace Go.Proofs.Ytfipdoofgbjbjaa
open Go.RowKit
attribute [local go_sem] Oper.semAt_some
theorem rneed_yes (e : Int) (w : World) : Calls Try.prog 36 #[.bool true, .int .i64 e] w fun x w' => x = .returned (.tuple #[]) ∧ w' = w := by
  go_enter Try.func36, Try.ntmps36
  go_wp2
  go_end0
  exact ⟨rfl, rfl⟩
theorem rneed_no (e : Int) (w : World) : Calls Try.prog 36 #[.bool false, .int .i64 e] w fun x w' => x = leaves e ∧ w' = w := by
  go_enter Try.func36, Try.ntmps36
  go_wp2
  exact ⟨rfl, rfl, rfl⟩
theorem info_que : (Try.prog.info? 40).map (fun i => (i.zero, i.size, i.bytes)) = some (some (.agg #[.slice none 0 0, .int .u64 0]), 2, 32) := by kernel_rfl
theorem encQ_one (y : Qe) (j : Nat) (_ : j < 2) : (encQ y j).oneCell' = true := by
  unfold encQ; split <;> rfl
/-- what queues hold, wherever they lie -/
def ql (es : List Qe) : List (List Cb × Int) := es.map fun x => (x.l, x.o)
@[reducible] def ccells (s : St) (g : Gr) (a : Ra) (is what : Int) (R : Option Addr) (nr kr : Nat) : Array Value := #[.int .i64 s.1, .slice a.A a.n a.k, .slice a.B a.m a.d, .int .i64 g.dn, .int .i64 g.ak, .bool g.on, .slice a.D g.nd.length a.kd, .slice a.Q a.nq a.kq, .int .i64 is, .int .u64 what, .slice R nr kr]
/-- all of it, owned, each row in blocks of its type -/
structure RcT (w : World) (lo : Nat) (s : St) (g : Gr) (es : List Qe) (a : Ra) : Prop where
  ro : Rown w lo a.A a.n a.k a.B a.m a.d s.2.1 s.2.2
  gd : Ow blv w lo 4 a.D g.nd.length a.kd g.nd
  qs : Om 2 encQ w lo 40 a.Q a.nq a.kq es
  qe : ∀ x ∈ es, Om 2 encC w lo 65 x.A x.n x.c x.l ∧ x.n ≤ 1000
theorem RcT.step {w w' : World} {lo : Nat} {s : St} {g : Gr} {es : List Qe} {a : Ra} (h : RcT w lo s g es a) (hb : Below w.heap.size w w') : RcT w' lo s g es a :=
  ⟨h.ro.step hb, h.gd.step hb, h.qs.step hb, fun x hx => ⟨(h.qe x hx).1.step hb, (h.qe x hx).2⟩⟩
theorem Rown.keptM' {α : Type} {sz : Nat} {enc : α → Nat → Value} {xs : List α} {w w' : World} {lo lo2 n c m d k cl : Nat} {e : TypeId} {A B L : Option Addr} {ns os : List Int} (h : Rown w lo A n c B m d ns os) (ho : Om sz enc w lo2 e L k cl xs) (h1 : 3 ≠ e) (hg : w.grownBy w' (Value.slice L k cl).ownBlock) : Rown w' lo A n c B m d ns os :=
  ⟨h.oa.keptM ho h1 hg, h.ob.keptM ho h1 hg, h.apart, h.hn, h.hm⟩
theorem Rown.keptR {w w' : World} {lo n c m d g : Nat} {t : TypeId} {A B : Option Addr} {ns os : List Int} {cs : Array Value} (h : Rown w lo A n c B m d ns os) (hb : Blk w g t cs) (hne : t ≠ 3) (hg : w.grownBy w' (some g)) : Rown w' lo A n c B m d ns os :=
  ⟨h.oa.keptR hb hne hg, h.ob.keptR hb hne hg, h.apart, h.hn, h.hm⟩
theorem Om.keptR {α : Type} {sz : Nat} {enc : α → Nat → Value} {w w' : World} {lo n c g : Nat} {e t : TypeId} {A : Option Addr} {xs : List α} {cs : Array Value} (h : Om sz enc w lo e A n c xs) (hb : Blk w g t cs) (hne : t ≠ e) (hg : w.grownBy w' (some g)) : Om sz enc w' lo e A n c xs :=
  h.keptG hg (fun a ha e => h.ne_blk hb hne a ha (Option.some.inj e))
/-- a box of another type is turned -/
theorem RcT.keptR {w w' : World} {lo gb : Nat} {t : TypeId} {cs : Array Value} {s : St} {g : Gr} {es : List Qe} {a : Ra} (h : RcT w lo s g es a) (hb : Blk w gb t cs) (h1 : t ≠ 3) (h2 : t ≠ 4) (h3 : t ≠ 40) (h4 : t ≠ 65) (hg : w.grownBy w' (some gb)) : RcT w' lo s g es a :=
  ⟨h.ro.keptR hb h1 hg, h.gd.keptR hb h2 hg, h.qs.keptR hb h3 hg, fun x hx => ⟨(h.qe x hx).1.keptR hb h4 hg, (h.qe x hx).2⟩⟩
/-- one element, in a block -/
theorem Sm.oneB {α : Type} {sz : Nat} {enc : α → Nat → Value} {d : α} {w : World} {g : Nat} {e : TypeId} {cs : Array Value} {x : α} (h : Blk w g e cs) (hc : ∀ j, j < sz → cs[j]? = some (enc x j)) : Sm sz enc d w 0 w.heap.size (some ⟨g, 0, none⟩) 1 [x] := by
  refine ⟨rfl, fun _ => ⟨g, 0, rfl, Nat.zero_le _, h.lt, fun k hk j hj => ?_⟩⟩
  obtain rfl : k = 0 := by omega
  rw [show 0 + 0 * sz + j = j by omega, h.cell, hc j hj]
  rfl
/-- what tries hands back -/
def RTried (w : World) (q : Nat → Prop) (YES : Nat → Nat → World → Prop) (NO : Int → World → Prop) (x : Ending) (w' : World) : Prop :=
  GrownP q w w' ∧ ((∃ gb, x = .returned (.tuple #[ptr gb, .int .i64 0]) ∧ ∃ l, w.heap.size ≤ l ∧ l ≤ gb ∧ YES l gb w') ∨ ∃ gn c, x = .returned (.tuple #[ptr gn, .int .i64 c]) ∧ NO c w' ∧ w.heap.size ≤ gn ∧ Blk w' gn 79 cpu0)
set_option maxRecDepth 100000 in
set_option maxHeartbeats 8000000 in
theorem rtries_any (s : St) (g : Gr) (es : List Qe) (a : Ra) (F : Nat) (caps : Array Value) (q : Nat → Prop) (YES : Nat → Nat → World → Prop) (NO : Int → World → Prop) (w : World) (hq : ∀ i, q i → i < w.heap.size) (h : RcR w s g es a) (hF : Enters Try.prog F)
    (hno : ¬ RcOk s g es → ∀ W, Below w.heap.size w W → NO 240 W)
    (hdo : RcOk s g es → ∀ (w1 : World) (l gc : Nat) (a1 : Ra) (es1 : List Qe), w.heap.size ≤ l → l ≤ gc → Below w.heap.size w w1 → Blk w1 gc 79 (ccells s g a1 0 0 none 0 0) → RcT w1 l s g es1 a1 → ql es1 = ql es →
      Calls Try.prog F (#[ptr gc] ++ caps) w1 fun x w2 => GrownP (fun i => q i ∨ l ≤ i) w1 w2 ∧ ((x = .returned (.tuple #[]) ∧ YES l gc w2) ∨ ∃ c, x = leaves c ∧ NO c w2))
    (hst : ∀ (l gb : Nat) (W : World) (p : Addr) (u : Value), YES l gb W → w.heap.size ≤ p.block → p.block < l → YES l gb (W.setCell p u))
    (hsn : ∀ (c : Int) (W W' : World), NO c W → Below w.heap.size W W' → NO c W') :
    Calls Try.prog 28 #[rcv s g a, .func (.func F) #[] caps] w (RTried w q YES NO) := by
  have HR := hid h; have HB := hid (Below.refl w.heap.size w); have HDO := hid hdo; have HF := hid hF; have HST := hid hst; have HSN := hid hsn; have HQ := hid hq; have HNO := hid hno
  clear h hdo hF hst hsn hq hno
  obtain ⟨A, n, k, B, m, d, D, kd, Q, nq, kq⟩ := a
  obtain ⟨now, ns, os⟩ := s
  have hmf : ∀ (fn : Fn) (first cap : Array Value) (w : World), (Instr.makeFunc fn first cap).run Try.prog w = .ok (.func fn first cap) w := fun _ _ _ _ => rfl
  have hQ3 := hid HR.out.qs.len
  have bx := below_box w (.cells (rcells (now, ns, os) g ⟨A, n, k, B, m, d, D, kd, Q, nq, kq⟩) 30)
  replace HR := hid (HR.out.step bx); replace HB := hid (below_then HB.out bx)
  clear bx
  have P2 := hid (Blk.new w 30 (rcells (now, ns, os) g ⟨A, n, k, B, m, d, D, kd, Q, nq, kq⟩))
  have bx := below_box (w.alloc (.cells (rcells (now, ns, os) g ⟨A, n, k, B, m, d, D, kd, Q, nq, kq⟩) 30)) (.cells #[.pointer none] 73)
  replace HR := hid (HR.out.step bx); replace P2 := hid (P2.out.step bx); replace HB := hid (below_then HB.out bx)
  clear bx
  have P4 := hid (Blk.new2 w 73 #[.pointer none] (.cells (rcells (now, ns, os) g ⟨A, n, k, B, m, d, D, kd, Q, nq, kq⟩) 30))
  have bx := below_box ((w.alloc (.cells (rcells (now, ns, os) g ⟨A, n, k, B, m, d, D, kd, Q, nq, kq⟩) 30)).alloc (.cells #[.pointer none] 73)) (.cells #[.int .i64 0] 33)
  replace HR := hid (HR.out.step bx); replace P2 := hid (P2.out.step bx); replace P4 := hid (P4.out.step bx); replace HB := hid (below_then HB.out bx)
  clear bx
  have P5 := hid (Blk.new3 w 33 #[.int .i64 0] (.cells (rcells (now, ns, os) g ⟨A, n, k, B, m, d, D, kd, Q, nq, kq⟩) 30) (.cells #[.pointer none] 73))
  go_enter_defers Try.func28, Try.ntmps28
  go_upto_region 2 with fail
  have hz0 := hid (show (((w.alloc (.cells (rcells (now, ns, os) g ⟨A, n, k, B, m, d, D, kd, Q, nq, kq⟩) 30)).alloc (.cells #[.pointer none] 73)).alloc (.cells #[.int .i64 0] 33)).heap.size = w.heap.size + 3 by simp)
  generalize ((w.alloc (.cells (rcells (now, ns, os) g ⟨A, n, k, B, m, d, D, kd, Q, nq, kq⟩) 30)).alloc (.cells #[.pointer none] 73)).alloc (.cells #[.int .i64 0] 33) = W0 at *
  have HZ := hz0
  clear hmf
  obtain ⟨y00, y01, y02, y03, y04, y05, y06, y07, yf0⟩ := P2.out.cells8
  go_wp2_with fail
  clear y00 y01 y02 y03 y04 y05 y06 y07 yf0
  refine (rcheck_any (now, ns, os) g es ⟨A, n, k, B, m, d, D, kd, Q, nq, kq⟩ _ HR.out).mono ?_
  rintro e w1 ⟨rfl, hb⟩
  have HS1 := hid hb.size
  replace HR := hid (HR.out.step hb); replace P2 := hid (P2.out.step hb); replace P4 := hid (P4.out.step hb); replace P5 := hid (P5.out.step hb); replace HB := hid (below_then HB.out hb)
  clear hb
  by_cases hok : RcOk (now, ns, os) g es
  rotate_left
  ·skip
   rw [show rcheckC (now, ns, os) g es = 240 from if_neg hok]
   have HN := hid (HNO.out hok)
   clear hok
   go_wp2_with fail
   refine (rneed_no 240 _).mono ?_
   rintro x v1 ⟨rfl, rfl⟩
   have HZZ := hid (show w.heap.size + 3 ≤ v1.heap.size by have := HZ.out; have := HS1.out; omega)
   refine leaves_cons (f := 52) (args := #[ptr (w.heap.size + 1), ptr (w.heap.size + 1 + 1)]) (by simp) (by simp [go_sem]) ?_
   refine (rcatch_panicking (w.heap.size + 1) (w.heap.size + 1 + 1) w.heap.size 240 _ _ v1 P4.out P5.out (by omega) (by omega) HB.out.size).mono ?_
   rintro x u' w'' ⟨rfl, rfl, gn, hgn, hbb, hbn, hb4, hb5⟩
   have c4 := hb4.cell 0
   have c5 := hb5.cell 0
   simp [Leaves, settle, results, Try.results28, go_sem, c4, c5]
   have hfin := HB.out.trans hbb
   exact ⟨.mono (.ofBelow hfin) (fun _ h => h), .inr ⟨_, _, rfl, HN.out _ hfin, by have := HZZ.out; omega, hbn⟩⟩
  rw [show rcheckC (now, ns, os) g es = 0 from if_pos hok]
  have HOK := hid hok
  clear hok HNO
  go_wp2_with fail
  refine (rneed_yes 240 _).mono ?_
  rintro x v1 ⟨rfl, rfl⟩
  have hv := hid (show w.heap.size + 3 ≤ v1.heap.size by have := HZ.out; have := HS1.out; omega)
  have HVL := hid (Below.refl v1.heap.size v1)
  have XHR := HR; have XP2 := P2; have XP4 := P4; have XP5 := P5; have XHB := HB
  clear HR P4 P5 HB
  obtain ⟨y00, y01, y02, y03, y04, y05, y06, y07, yf0⟩ := P2.out.cells8
  have bx := below_box v1 (.cells #[.int .i64 0, .slice none 0 0, .slice none 0 0, .int .i64 g.dn, .int .i64 g.ak, .bool g.on, .slice D g.nd.length kd, .slice none 0 0] 30)
  replace HVL := hid (below_then HVL.out bx)
  clear bx
  have PO := hid (Blk.new v1 30 #[.int .i64 0, .slice none 0 0, .slice none 0 0, .int .i64 g.dn, .int .i64 g.ak, .bool g.on, .slice D g.nd.length kd, .slice none 0 0])
  go_upto_region 4 with fail
  clear P2 y00 y01 y02 y03 y04 y05 y06 y07 yf0
  have hz3w := hid (show (v1.alloc (.cells #[.int .i64 0, .slice none 0 0, .slice none 0 0, .int .i64 g.dn, .int .i64 g.ak, .bool g.on, .slice D g.nd.length kd, .slice none 0 0] 30)).heap.size = v1.heap.size + 1 by simp)
  generalize v1.alloc (.cells #[.int .i64 0, .slice none 0 0, .slice none 0 0, .int .i64 g.dn, .int .i64 g.ak, .bool g.on, .slice D g.nd.length kd, .slice none 0 0] 30) = W3 at *
  have bx := (Below.refl W3.heap.size W3).drew
  replace PO := hid (PO.out.step bx); replace HVL := hid (below_then HVL.out bx)
  clear bx
  have hszd := hid (show W3.drew.heap.size = W3.heap.size from rfl)
  refine wp_region_noPanic ?_
  refine wp_region_held_tail 12 (fun W' : World => W'.cell? ⟨w.heap.size, 0, none⟩ = some (.int .i64 now) ∧ W'.cell? ⟨w.heap.size, 1, none⟩ = some (.slice A n k) ∧ W'.cell? ⟨w.heap.size, 2, none⟩ = some (.slice B m d)) #[false, false, false, false, false, false, false, false, false, false, false, false, false, false] (by kernel_rfl) ⟨(XP2.out.below HVL.out XP2.out.lt).cells8.1, (XP2.out.below HVL.out XP2.out.lt).cells8.2.1, (XP2.out.below HVL.out XP2.out.lt).cells8.2.2.1⟩ (by kernel_rfl) (by kernel_rfl) (fun hS => ?_)
  generalize W3.drew = Wd at *
  refine wpAnyT_take (i := 0) (v := ?_) (by kernel_rfl) (by simp only [List.getElem?_toArray, List.getElem?_cons_succ, List.getElem?_cons_zero]; rfl) (by kernel_rfl) (fun _ _ _ h => h) (Or.inl ⟨by rfl, ?_⟩) hS ?_
  rotate_left
  · intro w' hSw; (try dsimp only at hSw); go_split_ands; go_simp; (try with_reducible rfl)
  (try simp only [Act.put, List.setIfInBounds_toArray, List.set_cons_zero, List.set_cons_succ])
  refine wpAnyT_take (i := 1) (v := ?_) (by kernel_rfl) (by simp only [List.getElem?_toArray, List.getElem?_cons_succ, List.getElem?_cons_zero]; rfl) (by kernel_rfl) (fun _ _ _ h => h) (Or.inl ⟨by rfl, ?_⟩) hS ?_
  rotate_left
  · intro w' hSw; (try dsimp only at hSw); go_split_ands; go_simp; (try with_reducible rfl)
  (try simp only [Act.put, List.setIfInBounds_toArray, List.set_cons_zero, List.set_cons_succ])
  refine wpAnyT_take (i := 2) (v := ?_) (by kernel_rfl) (by simp only [List.getElem?_toArray, List.getElem?_cons_succ, List.getElem?_cons_zero]; rfl) (by kernel_rfl) (fun _ _ _ h => h) (Or.inl ⟨by rfl, ?_⟩) hS ?_
  rotate_left
  · intro w' hSw; (try dsimp only at hSw); go_split_ands; go_simp; (try with_reducible rfl)
  (try simp only [Act.put, List.setIfInBounds_toArray, List.set_cons_zero, List.set_cons_succ])
  refine wpAnyT_take (i := 3) (v := ?_) (by kernel_rfl) (by simp only [List.getElem?_toArray, List.getElem?_cons_succ, List.getElem?_cons_zero]; rfl) (by kernel_rfl) (fun _ _ _ h => h) (Or.inl ⟨by rfl, ?_⟩) hS ?_
  rotate_left
  · intro w' hSw; (try dsimp only at hSw); go_split_ands; go_simp; (try with_reducible rfl)
  (try simp only [Act.put, List.setIfInBounds_toArray, List.set_cons_zero, List.set_cons_succ])
  refine wpAnyT_take (i := 4) (v := ?_) (by kernel_rfl) (by simp only [List.getElem?_toArray, List.getElem?_cons_succ, List.getElem?_cons_zero]; rfl) (by kernel_rfl) (fun _ _ _ h => h) (Or.inl ⟨by rfl, ?_⟩) hS ?_
  rotate_left
  · intro w' hSw; (try dsimp only at hSw); go_split_ands; go_simp; (try with_reducible rfl)
  (try simp only [Act.put, List.setIfInBounds_toArray, List.set_cons_zero, List.set_cons_succ])
  refine wpAnyT_take (i := 5) (v := ?_) (by kernel_rfl) (by simp only [List.getElem?_toArray, List.getElem?_cons_succ, List.getElem?_cons_zero]; rfl) (by kernel_rfl) (fun _ _ _ h => h) (Or.inl ⟨by rfl, ?_⟩) hS ?_
  rotate_left
  · intro w' hSw; (try dsimp only at hSw); go_split_ands; go_simp; (try with_reducible rfl)
  (try simp only [Act.put, List.setIfInBounds_toArray, List.set_cons_zero, List.set_cons_succ])
  refine wpAnyT_take (i := 7) (v := ?_) (by kernel_rfl) (by simp only [List.getElem?_toArray, List.getElem?_cons_succ, List.getElem?_cons_zero]; rfl) (by kernel_rfl) (fun _ _ _ h => h) (Or.inl ⟨by rfl, ?_⟩) hS ?_
  rotate_left
  · intro w' hSw; (try dsimp only at hSw); go_split_ands; go_simp; (try with_reducible rfl)
  (try simp only [Act.put, List.setIfInBounds_toArray, List.set_cons_zero, List.set_cons_succ])
  refine wpAnyT_take (i := 8) (v := ?_) (by kernel_rfl) (by simp only [List.getElem?_toArray, List.getElem?_cons_succ, List.getElem?_cons_zero]; rfl) (by kernel_rfl) (fun _ _ _ h => h) (Or.inl ⟨by rfl, ?_⟩) hS ?_
  rotate_left
  · intro w' hSw; (try dsimp only at hSw); go_split_ands; go_simp; (try with_reducible rfl)
  (try simp only [Act.put, List.setIfInBounds_toArray, List.set_cons_zero, List.set_cons_succ])
  refine wpAnyT_take (i := 9) (v := ?_) (by kernel_rfl) (by simp only [List.getElem?_toArray, List.getElem?_cons_succ, List.getElem?_cons_zero]; rfl) (by kernel_rfl) (fun _ _ _ h => h) (Or.inl ⟨by rfl, ?_⟩) hS ?_
  rotate_left
  · intro w' hSw; (try dsimp only at hSw); go_split_ands; go_simp; (try with_reducible rfl)
  (try simp only [Act.put, List.setIfInBounds_toArray, List.set_cons_zero, List.set_cons_succ])
  refine wpAnyT_ready [6] (by kernel_rfl) (by simp) ?_
  refine AllReadyT.cons (by simp only [List.getElem?_toArray, List.getElem?_cons_succ, List.getElem?_cons_zero]; rfl) rfl (fun K hK => ?_) ?_
  · skip
    go_simp
    refine (clone_int A n k 0 ns _ ((XHR.out.rd.hx.below HVL.out (Nat.le_refl _)).mono (Nat.le_refl _) HVL.out.size) (by have := XHR.out.rd.hn; dsimp only at this; omega)).mono ?_
    rintro e w6 ⟨A6, c6, rfl, ho, hb⟩
    have hsz0 := hid (show Wd.heap.size ≤ w6.heap.size from hb.size)
    replace PO := hid (PO.out.step hb); replace HVL := hid (below_then HVL.out hb)
    clear hb
    have O6 := hid ho; have O6b := hid ho; have HZ6 := hid HVL.out.size
    go_wp2_with fail
    have hS' : (fun W' : World => W'.cell? ⟨w.heap.size, 0, none⟩ = some (.int .i64 now) ∧ W'.cell? ⟨w.heap.size, 1, none⟩ = some (.slice A n k) ∧ W'.cell? ⟨w.heap.size, 2, none⟩ = some (.slice B m d)) _ := ⟨(XP2.out.below HVL.out XP2.out.lt).cells8.1, (XP2.out.below HVL.out XP2.out.lt).cells8.2.1, (XP2.out.below HVL.out XP2.out.lt).cells8.2.2.1⟩
    refine hK.out _ _ hS' ?_
    clear hK K hS
    have hS := hS'
    clear hS'
    (try simp only [Act.put, List.setIfInBounds_toArray, List.set_cons_zero, List.set_cons_succ])
    refine wpAnyT_ready [10] (by kernel_rfl) (by simp) ?_
    refine AllReadyT.cons (by simp only [List.getElem?_toArray, List.getElem?_cons_succ, List.getElem?_cons_zero]; rfl) rfl (fun K hK => ?_) ?_
    · skip
      go_simp
      refine (clone_int B m d 0 os _ ((XHR.out.rd.hy.below HVL.out (Nat.le_refl _)).mono (Nat.le_refl _) HVL.out.size) (by have := XHR.out.rd.hm; dsimp only at this; omega)).mono ?_
      rintro e w10 ⟨A10, c10, rfl, ho, hb⟩
      have hsz1 := hid (show w6.heap.size ≤ w10.heap.size from hb.size)
      replace PO := hid (PO.out.step hb); replace O6 := hid (O6.out.step hb); replace HVL := hid (below_then HVL.out hb)
      clear hb
      have O10 := hid ho; have O10b := hid ho
      go_wp2_with fail
      have hS' : (fun W' : World => W'.cell? ⟨w.heap.size, 0, none⟩ = some (.int .i64 now) ∧ W'.cell? ⟨w.heap.size, 1, none⟩ = some (.slice A n k) ∧ W'.cell? ⟨w.heap.size, 2, none⟩ = some (.slice B m d)) _ := ⟨(XP2.out.below HVL.out XP2.out.lt).cells8.1, (XP2.out.below HVL.out XP2.out.lt).cells8.2.1, (XP2.out.below HVL.out XP2.out.lt).cells8.2.2.1⟩
      refine hK.out _ _ hS' ?_
      clear hK K hS
      have hS := hS'
      clear hS'
      (try simp only [Act.put, List.setIfInBounds_toArray, List.set_cons_zero, List.set_cons_succ])
      refine wpAnyT_take (i := 11) (v := ?_) (by kernel_rfl) (by simp only [List.getElem?_toArray, List.getElem?_cons_succ, List.getElem?_cons_zero]; rfl) (by kernel_rfl) (fun _ _ _ h => h) (Or.inl ⟨by rfl, ?_⟩) hS ?_
      rotate_left
      · intro w' hSw; (try dsimp only at hSw); go_split_ands; go_simp; (try with_reducible rfl)
      (try simp only [Act.put, List.setIfInBounds_toArray, List.set_cons_zero, List.set_cons_succ])
      refine wpAnyT_done (by kernel_rfl) ?_
      simp only [List.drop_succ_cons, List.drop_zero]
      clear hS
      obtain ⟨y00, y01, y02, y03, y04, y05, y06, y07, yf0⟩ := PO.out.cells8
      go_wp2_with fail
      refine NoPanic.normal ?_
      clear y00 y01 y02 y03 y04 y05 y06 y07 yf0
      have hgr := grown_set (grown_set (grown_set (World.grownBy.refl w10 (some v1.heap.size)) 0 (.int .i64 now)) 1 (.slice A6 n c6)) 2 (.slice A10 m c10)
      have hro := hid (show Rown (((w10.setCell ⟨v1.heap.size, 0, none⟩ (.int .i64 now)).setCell ⟨v1.heap.size, 1, none⟩ (.slice A6 n c6)).setCell ⟨v1.heap.size, 2, none⟩ (.slice A10 m c10)) v1.heap.size A6 n c6 A10 m c10 ns os from ⟨(O6.out.keptR PO.out (by decide) hgr).mono (by have := hszd.out; have := hz3w.out; omega), (O10.out.keptR PO.out (by decide) hgr).mono HZ6.out, fun ga gq h1 h2 e => by subst e; obtain ⟨_, cs5, q5⟩ := O6b.out.blk _ h1; have := q5.lt; have := (O10b.out.blk _ h2).1; omega, XHR.out.rd.hn, XHR.out.rd.hm⟩)
      replace HVL := hid (HVL.out.grown hgr HVL.out.size (fun r e => by cases e; exact Nat.le_refl _))
      replace PO := hid (show Blk (((w10.setCell ⟨v1.heap.size, 0, none⟩ (.int .i64 now)).setCell ⟨v1.heap.size, 1, none⟩ (.slice A6 n c6)).setCell ⟨v1.heap.size, 2, none⟩ (.slice A10 m c10)) v1.heap.size 30 #[.int .i64 now, .slice A6 n c6, .slice A10 m c10, .int .i64 g.dn, .int .i64 g.ak, .bool g.on, .slice D g.nd.length kd, .slice none 0 0] from ((PO.out.setCell 0 _).setCell 1 _).setCell 2 _)
      have RO := hid hro
      clear hgr hro O6 O10 O6b O10b hszd HZ6
      generalize ((w10.setCell ⟨v1.heap.size, 0, none⟩ (.int .i64 now)).setCell ⟨v1.heap.size, 1, none⟩ (.slice A6 n c6)).setCell ⟨v1.heap.size, 2, none⟩ (.slice A10 m c10) = W4 at *
      have P2a := hid (XP2.out.below HVL.out XP2.out.lt)
      obtain ⟨y00, y01, y02, y03, y04, y05, y06, y07, yf0⟩ := P2a.out.cells8
      go_wp2_with fail
      clear P2a y00 y01 y02 y03 y04 y05 y06 y07 yf0
      refine (clone_bool D g.nd.length kd 0 g.nd W4 ((XHR.out.gd.below HVL.out (Nat.le_refl _)).mono (Nat.le_refl _) HVL.out.size) (by have := XHR.out.gl; omega)).mono ?_
      rintro e W5 ⟨A7, c7, rfl, ho, hb⟩
      have DO := hid (ho.mono HVL.out.size)
      replace PO := hid (PO.out.step hb); replace RO := hid (RO.out.step hb); replace HVL := hid (below_then HVL.out hb)
      clear ho hb
      have P2a := hid (XP2.out.below HVL.out XP2.out.lt)
      obtain ⟨y00, y01, y02, y03, y04, y05, y06, y07, yf0⟩ := PO.out.cells8
      go_upto_region 6 with fail
      clear P2a y00 y01 y02 y03 y04 y05 y06 y07 yf0
      have hgr := grown_set (World.grownBy.refl W5 (some v1.heap.size)) 6 (.slice A7 g.nd.length c7)
      replace RO := hid (RO.out.keptR PO.out (by decide) hgr); replace DO := hid (DO.out.keptR PO.out (by decide) hgr); replace HVL := hid (HVL.out.grown hgr HVL.out.size (fun r e => by cases e; exact Nat.le_refl _))
      replace PO := hid (show Blk (W5.setCell ⟨v1.heap.size, 6, none⟩ (.slice A7 g.nd.length c7)) v1.heap.size 30 #[.int .i64 now, .slice A6 n c6, .slice A10 m c10, .int .i64 g.dn, .int .i64 g.ak, .bool g.on, .slice A7 g.nd.length c7, .slice none 0 0] from PO.out.setCell 6 _)
      clear hgr
      generalize W5.setCell ⟨v1.heap.size, 6, none⟩ (.slice A7 g.nd.length c7) = W6 at *
      have P2a := hid (XP2.out.below HVL.out XP2.out.lt)
      obtain ⟨y00, y01, y02, y03, y04, y05, y06, y07, yf0⟩ := P2a.out.cells8
      go_wp2_with fail
      clear P2a y00 y01 y02 y03 y04 y05 y06 y07 yf0
      go_loopw [8, 39] (fun _ i wr => ∃ (j : Nat) (Qo : Option Addr) (cq : Nat) (ej : List Qe), j ≤ nq ∧ i = .int .i64 j ∧ Below v1.heap.size v1 wr ∧ Blk wr v1.heap.size 30 #[.int .i64 now, .slice A6 n c6, .slice A10 m c10, .int .i64 g.dn, .int .i64 g.ak, .bool g.on, .slice A7 g.nd.length c7, .slice Qo j cq] ∧ RcT wr v1.heap.size (now, ns, os) g ej ⟨A6, n, c6, A10, m, c10, A7, c7, Qo, j, cq⟩ ∧ ql ej = (ql es).take j) (fun _ i _ => nq - (intOf i).toNat)
      case atStart => exact ⟨0, none, 0, [], Nat.zero_le _, rfl, HVL.out, PO.out, ⟨RO.out, DO.out, Om.nil _ _ _, fun _ h => (by cases h)⟩, rfl⟩
      case round =>
        clear HVL PO RO DO
        obtain ⟨j, Qo, cq, ej, hj, rfl, h1, h2, h3, h4⟩ := hrel
        have HVL := hid h1; have PO := hid h2; have RT := hid h3; have HQL := hid h4
        clear h1 h2 h3 h4
        by_cases hjn : j < nq
        rotate_left
        ·skip
         obtain rfl : j = nq := by omega
         have hnn : ¬ ((j : Int) < (j : Int)) := by omega
         have HQL2 := hid (show ql ej = ql es by rw [HQL.out, List.take_of_length_le (by unfold ql; rw [List.length_map, hQ3.out]; exact Nat.le_refl _)])
         clear HQL
         have hvr := hid (show v1.heap.size < wr.heap.size from PO.out.lt)
         have P4a := hid ((XP4.out.below HVL.out XP4.out.lt).alloc (.cells #[.int .i64 now, .slice A6 n c6, .slice A10 m c10, .int .i64 g.dn, .int .i64 g.ak, .bool g.on, .slice A7 g.nd.length c7, .slice Qo j cq, .int .i64 0, .int .u64 0, .slice none 0 0] 79))
         have P5a := hid ((XP5.out.below HVL.out XP5.out.lt).alloc (.cells #[.int .i64 now, .slice A6 n c6, .slice A10 m c10, .int .i64 g.dn, .int .i64 g.ak, .bool g.on, .slice A7 g.nd.length c7, .slice Qo j cq, .int .i64 0, .int .u64 0, .slice none 0 0] 79))
         obtain ⟨y00, y01, y02, y03, y04, y05, y06, y07, yf0⟩ := PO.out.cells8
         obtain ⟨y10, yf1⟩ := P4a.out.cells1
         go_upto_region 12 with fail
         clear y00 y01 y02 y03 y04 y05 y06 y07 yf0 y10 yf1
         have hgr := grown_set (World.grownBy.refl (wr.alloc (.cells #[.int .i64 now, .slice A6 n c6, .slice A10 m c10, .int .i64 g.dn, .int .i64 g.ak, .bool g.on, .slice A7 g.nd.length c7, .slice Qo j cq, .int .i64 0, .int .u64 0, .slice none 0 0] 79)) (some (w.heap.size + 1))) 0 (.pointer (some ⟨wr.heap.size, 0, none⟩))
         have PC := hid (show Blk ((wr.alloc (.cells #[.int .i64 now, .slice A6 n c6, .slice A10 m c10, .int .i64 g.dn, .int .i64 g.ak, .bool g.on, .slice A7 g.nd.length c7, .slice Qo j cq, .int .i64 0, .int .u64 0, .slice none 0 0] 79)).setCell ⟨w.heap.size + 1, 0, none⟩ (.pointer (some ⟨wr.heap.size, 0, none⟩))) wr.heap.size 79 (ccells (now, ns, os) g ⟨A6, n, c6, A10, m, c10, A7, c7, Qo, j, cq⟩ 0 0 none 0 0) from (Blk.new wr 79 #[.int .i64 now, .slice A6 n c6, .slice A10 m c10, .int .i64 g.dn, .int .i64 g.ak, .bool g.on, .slice A7 g.nd.length c7, .slice Qo j cq, .int .i64 0, .int .u64 0, .slice none 0 0]).far (p := ⟨w.heap.size + 1, 0, none⟩) (by have := hv.out; have := hvr.out; simp; omega) (.pointer (some ⟨wr.heap.size, 0, none⟩)))
         have RT2 := hid ((RT.out.step (below_box wr (.cells #[.int .i64 now, .slice A6 n c6, .slice A10 m c10, .int .i64 g.dn, .int .i64 g.ak, .bool g.on, .slice A7 g.nd.length c7, .slice Qo j cq, .int .i64 0, .int .u64 0, .slice none 0 0] 79))).keptR P4a.out (by decide) (by decide) (by decide) (by decide) hgr)
         have P4 := hid (show Blk ((wr.alloc (.cells #[.int .i64 now, .slice A6 n c6, .slice A10 m c10, .int .i64 g.dn, .int .i64 g.ak, .bool g.on, .slice A7 g.nd.length c7, .slice Qo j cq, .int .i64 0, .int .u64 0, .slice none 0 0] 79)).setCell ⟨w.heap.size + 1, 0, none⟩ (.pointer (some ⟨wr.heap.size, 0, none⟩))) (w.heap.size + 1) 73 #[ptr wr.heap.size] from P4a.out.setCell 0 _)
         have P5 := hid (P5a.out.far (p := ⟨w.heap.size + 1, 0, none⟩) (by simp) (.pointer (some ⟨wr.heap.size, 0, none⟩)))
         have HB := hid (((below_then XHB.out HVL.out).alloc (below_then XHB.out HVL.out).size (.cells #[.int .i64 now, .slice A6 n c6, .slice A10 m c10, .int .i64 g.dn, .int .i64 g.ak, .bool g.on, .slice A7 g.nd.length c7, .slice Qo j cq, .int .i64 0, .int .u64 0, .slice none 0 0] 79)).setCell (p := ⟨w.heap.size + 1, 0, none⟩) (by simp) (.pointer (some ⟨wr.heap.size, 0, none⟩)))
         clear P4a P5a PO RT HVL hgr
         generalize ((wr.alloc (.cells #[.int .i64 now, .slice A6 n c6, .slice A10 m c10, .int .i64 g.dn, .int .i64 g.ak, .bool g.on, .slice A7 g.nd.length c7, .slice Qo j cq, .int .i64 0, .int .u64 0, .slice none 0 0] 79)).setCell ⟨w.heap.size + 1, 0, none⟩ (.pointer (some ⟨wr.heap.size, 0, none⟩))) = W5 at *
         have hEn := HF.out
         obtain ⟨y00, yf0⟩ := P4.out.cells1
         go_wp2_with fail
         clear y00 yf0 hEn
         rw [HF.out (#[ptr wr.heap.size] ++ caps) W5]
         rw [Oper.upon_enter]
         refine (HDO.out HOK.out W5 v1.heap.size wr.heap.size ⟨A6, n, c6, A10, m, c10, A7, c7, Qo, j, cq⟩ ej (by have := hv.out; omega) (by have := hvr.out; omega) HB.out PC.out RT2.out HQL2.out).mono ?_
         rintro x W6 ⟨hb, ⟨rfl, hy⟩ | ⟨c, rfl, hno⟩⟩
         ·skip
          have P4a := hid (P4.out.keptP hb (by rintro (h | h); exact absurd (HQ.out _ h) (by omega); exact absurd h (by have := hv.out; omega)))
          have P5a := hid (P5.out.keptP hb (by rintro (h | h); exact absurd (HQ.out _ h) (by omega); exact absurd h (by have := hv.out; omega)))
          have HBa := hid (GrownP.cut HB.out hb (show w.heap.size ≤ v1.heap.size by have := hv.out; omega))
          have HYa := hid hy
          clear hy hb P4 P5 PC HB HDO RT2
          have c4 := P4a.out.cell 0
          have f4 := P4a.out.frozen 0
          have c5 := P5a.out.cell 0
          have f5 := P5a.out.frozen 0
          go_upto_region 13 with fail
          go_wp2_with fail
          clear c4 f4 c5 f5
          have P4b := hid ((P4a.out.setCell 0 (ptr wr.heap.size)).far (p := ⟨w.heap.size + 1 + 1, 0, none⟩) (by simp) (.int .i64 0))
          have P5b := hid ((P5a.out.far (p := ⟨w.heap.size + 1, 0, none⟩) (by simp) (ptr wr.heap.size)).setCell 0 (.int .i64 0))
          have HBb := hid ((HBa.out.setCell (p := ⟨w.heap.size + 1, 0, none⟩) (by simp) (ptr wr.heap.size)).setCell (p := ⟨w.heap.size + 1 + 1, 0, none⟩) (by simp; omega) (.int .i64 0))
          have HYb := hid (HST.out _ _ _ ⟨w.heap.size + 1 + 1, 0, none⟩ (.int .i64 0) (HST.out _ _ _ ⟨w.heap.size + 1, 0, none⟩ (ptr wr.heap.size) HYa.out (by simp) (by have := hv.out; simp; omega)) (by simp; omega) (by have := hv.out; simp; omega))
          clear P4a P5a HBa HYa
          generalize (W6.setCell ⟨w.heap.size + 1, 0, none⟩ (ptr wr.heap.size)).setCell ⟨w.heap.size + 1 + 1, 0, none⟩ (.int .i64 0) = W7 at *
          refine leaves_cons (f := 52) (args := #[ptr (w.heap.size + 1), ptr (w.heap.size + 1 + 1)]) (by simp) (by simp [go_sem]) ?_
          refine (rcatch_idle _ _ _).mono ?_
          rintro x u' w'' ⟨rfl, rfl, rfl⟩
          have c4 := P4b.out.cell 0
          have c5 := P5b.out.cell 0
          simp [Leaves, settle, results, Try.results28, go_sem, c4, c5]
          exact ⟨HBb.out, .inl ⟨_, rfl, _, by have := hv.out; omega, by have := hvr.out; omega, HYb.out⟩⟩
         ·skip
          have P4a := hid (P4.out.keptP hb (by rintro (h | h); exact absurd (HQ.out _ h) (by omega); exact absurd h (by have := hv.out; omega)))
          have P5a := hid (P5.out.keptP hb (by rintro (h | h); exact absurd (HQ.out _ h) (by omega); exact absurd h (by have := hv.out; omega)))
          have HBa := hid (GrownP.cut HB.out hb (show w.heap.size ≤ v1.heap.size by have := hv.out; omega))
          have HNOa := hid hno
          clear hno hb P4 P5 PC HB HDO RT2
          refine leaves_cons (f := 52) (args := #[ptr (w.heap.size + 1), ptr (w.heap.size + 1 + 1)]) (by simp) (by simp [go_sem]) ?_
          refine (rcatch_panicking (w.heap.size + 1) (w.heap.size + 1 + 1) w.heap.size c _ _ W6 P4a.out P5a.out (by omega) (by omega) HBa.out.size).mono ?_
          rintro x u' w'' ⟨rfl, rfl, gn, hgn, hbb, hbn, hb4, hb5⟩
          have HN := hid (HSN.out _ _ _ HNOa.out hbb)
          have c4 := hb4.cell 0
          have c5 := hb5.cell 0
          simp [Leaves, settle, results, Try.results28, go_sem, c4, c5]
          exact ⟨HBa.out.then_ hbb, .inr ⟨_, _, rfl, HN.out, by have := HBa.out.size; omega, hbn⟩⟩
        have hji : (j : Int) < (nq : Int) := by omega
        obtain ⟨b, off, hbq, _, hbh, hc⟩ := XHR.out.qs.row (by dsimp only; omega)
        obtain ⟨x, hx⟩ : ∃ x, x = es[j]?.getD zQe := ⟨_, rfl⟩
        have c0 := hc j hjn 0 (by omega)
        have c1 := hc j hjn 1 (by omega)
        rw [← hx] at c0 c1
        have HQE := hid (XHR.out.qe x (by rw [hx, List.getElem?_eq_getElem (by rw [hQ3.out]; exact hjn)]; exact List.getElem_mem _))
        have HXQ := hid (show (ql es).take (j + 1) = (ql es).take j ++ [(x.l, x.o)] by
          have hlt : j < es.length := by rw [hQ3.out]; exact hjn
          rw [List.take_succ_eq_append_getElem (by unfold ql; rw [List.length_map]; exact hlt), hx, List.getElem?_eq_getElem hlt]; simp [ql])
        obtain ⟨xl, xo, xA, xn, xc⟩ := x
        have f0 : wr.cell? ⟨b, off + j * 2, none⟩ = some (.slice xA xn xc) := by rw [Nat.add_zero] at c0; exact (HVL.out.cell (p := ⟨b, off + j * 2, none⟩) (by show b < _; omega)).trans c0
        have f1 : wr.cell? ⟨b, off + j * 2 + 1, none⟩ = some (.int .u64 xo) := (HVL.out.cell (p := ⟨b, off + j * 2 + 1, none⟩) (by show b < _; omega)).trans c1
        clear hc c0 c1 hx hbh
        dsimp only at hbq
        subst hbq
        have HQB := hid (show ∀ a, Qo = some a → a.block < wr.heap.size from fun a ha => by obtain ⟨_, cs, q⟩ := RT.out.qs.blk a ha; exact q.lt)
        have bx := below_box wr (.cells #[.slice xA xn xc, .int .u64 xo] 40)
        replace PO := hid (PO.out.step bx); replace RT := hid (RT.out.step bx); replace HVL := hid (below_then HVL.out bx)
        clear bx
        have PT := hid (Blk.new wr 40 #[.slice xA xn xc, .int .u64 xo])
        go_upto_region 9 with fail
        clear f0 f1
        have hzr := hid (show (wr.alloc (.cells #[.slice xA xn xc, .int .u64 xo] 40)).heap.size = wr.heap.size + 1 by simp)
        generalize wr.alloc (.cells #[.slice xA xn xc, .int .u64 xo] 40) = W7 at *
        have HVW := hid (show v1.heap.size ≤ wr.heap.size by have := hzr.out; have := PO.out.lt; have := HVL.out.size; omega)
        obtain ⟨i0, hi0, hz00, hz01, hz02⟩ := info_parts info_que
        have bx := (Below.refl W7.heap.size W7).drew
        replace PO := hid (PO.out.step bx); replace RT := hid (RT.out.step bx); replace PT := hid (PT.out.step bx); replace HVL := hid (below_then HVL.out bx)
        clear bx
        have hszd := hid (show W7.drew.heap.size = W7.heap.size from rfl)
        refine wp_region_noPanic ?_
        refine wp_region_held_tail 10 (fun W' : World => W'.cell? ⟨v1.heap.size, 7, none⟩ = some (.slice Qo j cq) ∧ W'.cell? ⟨wr.heap.size, 0, none⟩ = some (.slice xA xn xc) ∧ W'.cell? ⟨wr.heap.size, 1, none⟩ = some (.int .u64 xo)) #[false, false, false, false, false, false, false, false, false, false, false, false] (by kernel_rfl) ⟨PO.out.cells8.2.2.2.2.2.2.2.1, PT.out.cells2.1, PT.out.cells2.2.1⟩ (by kernel_rfl) (by kernel_rfl) (fun hS => ?_)
        generalize W7.drew = Wd at *
        refine wpAnyT_take (i := 0) (v := ?_) (by kernel_rfl) (by simp only [List.getElem?_toArray, List.getElem?_cons_succ, List.getElem?_cons_zero]; rfl) (by kernel_rfl) (fun _ _ _ h => h) (Or.inl ⟨by rfl, ?_⟩) hS ?_
        rotate_left
        · intro w' hSw; (try dsimp only at hSw); go_split_ands; go_simp; (try with_reducible rfl)
        (try simp only [Act.put, List.setIfInBounds_toArray, List.set_cons_zero, List.set_cons_succ])
        refine wpAnyT_take (i := 1) (v := ?_) (by kernel_rfl) (by simp only [List.getElem?_toArray, List.getElem?_cons_succ, List.getElem?_cons_zero]; rfl) (by kernel_rfl) (fun _ _ _ h => h) (Or.inl ⟨by rfl, ?_⟩) hS ?_
        rotate_left
        · intro w' hSw; (try dsimp only at hSw); go_split_ands; go_simp; (try with_reducible rfl)
        (try simp only [Act.put, List.setIfInBounds_toArray, List.set_cons_zero, List.set_cons_succ])
        refine wpAnyT_take (i := 2) (v := ?_) (by kernel_rfl) (by simp only [List.getElem?_toArray, List.getElem?_cons_succ, List.getElem?_cons_zero]; rfl) (by kernel_rfl) (fun _ _ _ h => h) (Or.inl ⟨by rfl, ?_⟩) hS ?_
        rotate_left
        · intro w' hSw; (try dsimp only at hSw); go_split_ands; go_simp; (try with_reducible rfl)
        (try simp only [Act.put, List.setIfInBounds_toArray, List.set_cons_zero, List.set_cons_succ])
        refine wpAnyT_take (i := 3) (v := ?_) (by kernel_rfl) (by simp only [List.getElem?_toArray, List.getElem?_cons_succ, List.getElem?_cons_zero]; rfl) (by kernel_rfl) (fun _ _ _ h => h) (Or.inl ⟨by rfl, ?_⟩) hS ?_
        rotate_left
        · intro w' hSw; (try dsimp only at hSw); go_split_ands; go_simp; (try with_reducible rfl)
        (try simp only [Act.put, List.setIfInBounds_toArray, List.set_cons_zero, List.set_cons_succ])
        refine wpAnyT_take (i := 5) (v := ?_) (by kernel_rfl) (by simp only [List.getElem?_toArray, List.getElem?_cons_succ, List.getElem?_cons_zero]; rfl) (by kernel_rfl) (fun _ _ _ h => h) (Or.inl ⟨by rfl, ?_⟩) hS ?_
        rotate_left
        · intro w' hSw; (try dsimp only at hSw); go_split_ands; go_simp; (try with_reducible rfl)
        (try simp only [Act.put, List.setIfInBounds_toArray, List.set_cons_zero, List.set_cons_succ])
        refine wpAnyT_take (i := 6) (v := ?_) (by kernel_rfl) (by simp only [List.getElem?_toArray, List.getElem?_cons_succ, List.getElem?_cons_zero]; rfl) (by kernel_rfl) (fun _ _ _ h => h) (Or.inl ⟨by rfl, ?_⟩) hS ?_
        rotate_left
        · intro w' hSw; (try dsimp only at hSw); go_split_ands; go_simp; (try with_reducible rfl)
        (try simp only [Act.put, List.setIfInBounds_toArray, List.set_cons_zero, List.set_cons_succ])
        refine wpAnyT_ready [4] (by kernel_rfl) (by simp) ?_
        refine AllReadyT.cons (by simp only [List.getElem?_toArray, List.getElem?_cons_succ, List.getElem?_cons_zero]; rfl) rfl (fun K hK => ?_) ?_
        · skip
          go_simp
          refine (clone_cb xA xn xc 0 xl _ ((HQE.out.1.below (HVL.out) (Nat.le_refl _)).mono (Nat.le_refl _) (HVL.out).size) (by have := HQE.out.2.2.1; dsimp only at this; omega)).mono ?_
          rintro e w4 ⟨A4, c4, rfl, ho, hb⟩
          have hsz0 := hid (show Wd.heap.size ≤ w4.heap.size from hb.size)
          replace PO := hid (PO.out.step hb); replace RT := hid (RT.out.step hb); replace PT := hid (PT.out.step hb); replace HVL := hid (below_then HVL.out hb)
          clear hb
          have O4 := hid (ho.mono (show v1.heap.size ≤ _ by have := HVW.out; have := hzr.out; have := hszd.out; omega))
          clear ho
          go_wp2_with fail
          have hS' : (fun W' : World => W'.cell? ⟨v1.heap.size, 7, none⟩ = some (.slice Qo j cq) ∧ W'.cell? ⟨wr.heap.size, 0, none⟩ = some (.slice xA xn xc) ∧ W'.cell? ⟨wr.heap.size, 1, none⟩ = some (.int .u64 xo)) _ := ⟨PO.out.cells8.2.2.2.2.2.2.2.1, PT.out.cells2.1, PT.out.cells2.2.1⟩
          refine hK.out _ _ hS' ?_
          clear hK K hS
          have hS := hS'
          clear hS'
          (try simp only [Act.put, List.setIfInBounds_toArray, List.set_cons_zero, List.set_cons_succ])
          refine wpAnyT_take (i := 7) (v := ?_) (by kernel_rfl) (by simp only [List.getElem?_toArray, List.getElem?_cons_succ, List.getElem?_cons_zero]; rfl) (by kernel_rfl) (fun _ _ _ h => h) (Or.inl ⟨by rfl, ?_⟩) hS ?_
          rotate_left
          · intro w' hSw; (try dsimp only at hSw); go_split_ands; go_simp; (try with_reducible rfl)
          (try simp only [Act.put, List.setIfInBounds_toArray, List.set_cons_zero, List.set_cons_succ])
          refine wpAnyT_ready [8] (by kernel_rfl) (by simp) ?_
          refine AllReadyT.cons (by simp only [List.getElem?_toArray, List.getElem?_cons_succ, List.getElem?_cons_zero]; rfl) rfl (fun K hK => ?_) ?_
          · skip
            go_simp
            refine named_alloc ?_
            intro Wa8 hbk hb hsz
            have hsz1 := hid hsz
            replace PO := hid (PO.out.step hb); replace RT := hid (RT.out.step hb); replace PT := hid (PT.out.step hb); replace O4 := hid (O4.out.step hb); replace HVL := hid (below_then HVL.out hb)
            have PL := hid hbk
            clear hb hbk hsz
            have hS' : (fun W' : World => W'.cell? ⟨v1.heap.size, 7, none⟩ = some (.slice Qo j cq) ∧ W'.cell? ⟨wr.heap.size, 0, none⟩ = some (.slice xA xn xc) ∧ W'.cell? ⟨wr.heap.size, 1, none⟩ = some (.int .u64 xo)) _ := ⟨PO.out.cells8.2.2.2.2.2.2.2.1, PT.out.cells2.1, PT.out.cells2.2.1⟩
            refine hK.out _ _ hS' ?_
            clear hK K hS
            have hS := hS'
            clear hS'
            (try simp only [Act.put, List.setIfInBounds_toArray, List.set_cons_zero, List.set_cons_succ])
            refine wpAnyT_ready [9] (by kernel_rfl) (by simp) ?_
            refine AllReadyT.cons (by simp only [List.getElem?_toArray, List.getElem?_cons_succ, List.getElem?_cons_zero]; rfl) rfl (fun K hK => ?_) ?_
            · skip
              refine step_appm 2 encQ zQe _ rfl _ _ 28 rfl v1.heap.size 40 i0 _ 32 Try.underlying28 hi0 hz00 hz01 hz02 rfl (by omega) Qo j cq ej rfl RT.out.qs 0 _ (some ⟨w4.heap.size, 0, none⟩) 1 1 [⟨xl, xo, A4, xn, c4⟩] rfl (Sm.oneB PL.out (fun k hk => by match k, hk with | 0, _ => rfl | 1, _ => rfl)) encQ_one (by have := XHR.out.ql; dsimp only at this; simp only [maxLen]; omega) (by have := XHR.out.ql; dsimp only at this; omega) HVL.out.size ?_
              intro A9 c9 Wc9 hown hgr hat
              have RT9 := hid (show RcT Wc9 v1.heap.size (now, ns, os) g (ej ++ [⟨xl, xo, A4, xn, c4⟩]) ⟨A6, n, c6, A10, m, c10, A7, c7, A9, j + 1, c9⟩ from
                ⟨RT.out.ro.keptM' RT.out.qs (by decide) hgr, RT.out.gd.keptM RT.out.qs (by decide) hgr, hown, fun y hy => by
                  rcases List.mem_append.1 hy with hy | hy
                  · exact ⟨(RT.out.qe y hy).1.keptM RT.out.qs (by decide) hgr, (RT.out.qe y hy).2⟩
                  · obtain rfl := List.mem_singleton.1 hy
                    exact ⟨O4.out.keptM RT.out.qs (by decide) hgr, HQE.out.2.2.1⟩⟩)
              replace PO := hid (PO.out.keptM RT.out.qs (by decide) hgr)
              replace PT := hid (PT.out.grown hgr (fun e => by obtain ⟨a, ha, hb⟩ := own_addr e.symm; have := HQB.out a ha; omega))
              replace HVL := hid (HVL.out.grown hgr HVL.out.size (fun r e => RT.out.qs.row_ge r e))
              clear hown hgr hat PL RT O4
              have hS' : (fun W' : World => W'.cell? ⟨v1.heap.size, 7, none⟩ = some (.slice Qo j cq) ∧ W'.cell? ⟨wr.heap.size, 0, none⟩ = some (.slice xA xn xc) ∧ W'.cell? ⟨wr.heap.size, 1, none⟩ = some (.int .u64 xo)) _ := ⟨PO.out.cells8.2.2.2.2.2.2.2.1, PT.out.cells2.1, PT.out.cells2.2.1⟩
              refine hK.out _ _ hS' ?_
              clear hK K hS
              have hS := hS'
              clear hS'
              (try simp only [Act.put, List.setIfInBounds_toArray, List.set_cons_zero, List.set_cons_succ])
              refine wpAnyT_done (by kernel_rfl) ?_
              simp only [List.drop_succ_cons, List.drop_zero]
              clear hS
              obtain ⟨y00, y01, y02, y03, y04, y05, y06, y07, yf0⟩ := PO.out.cells8
              go_wp2_with fail
              refine NoPanic.normal ?_
              clear y00 y01 y02 y03 y04 y05 y06 y07 yf0
              have hgr := grown_set (World.grownBy.refl Wc9 (some v1.heap.size)) 7 (.slice A9 (j + 1) c9)
              have RTn := hid (RT9.out.keptR PO.out (by decide) (by decide) (by decide) (by decide) hgr)
              replace HVL := hid (HVL.out.grown hgr HVL.out.size (fun r e => by cases e; exact Nat.le_refl _))
              replace PO := hid (show Blk (Wc9.setCell ⟨v1.heap.size, 7, none⟩ (.slice A9 (j + 1) c9)) v1.heap.size 30 #[.int .i64 now, .slice A6 n c6, .slice A10 m c10, .int .i64 g.dn, .int .i64 g.ak, .bool g.on, .slice A7 g.nd.length c7, .slice A9 (j + 1) c9] from PO.out.setCell 7 _)
              clear hgr RT9
              generalize Wc9.setCell ⟨v1.heap.size, 7, none⟩ (.slice A9 (j + 1) c9) = Wn at *
              have hw1 : IntKind.i64.wrap ((j : Int) + 1) = (j : Int) + 1 := by rw [IntKind.wrap_i64]; have := XHR.out.ql; dsimp only at this; omega
              go_wp2_with fail
              go_roundw
              case rel => exact ⟨j + 1, A9, c9, _, by omega, by go_num, HVL.out, PO.out, RTn.out, by rw [HXQ.out, ← HQL.out]; simp [ql]⟩
              case measure => simp [intOf]; omega
            exact AllReadyT.nil
          exact AllReadyT.nil
        exact AllReadyT.nil
    exact AllReadyT.nil
  exact AllReadyT.nil
end Go.Proofs.Ytfipdoofgbjbjaa
