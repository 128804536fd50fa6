/- Walks and plain laws for this claim, part 11. No condition but sizes. -/
import Derived.Test.YtfipdoofgbjbjaaGreatM10
import Derived.Test.YtfipdoofgbjbjaaGreatM7
import Derived.Test.YtfipdoofgbjbjaaGreatM1
import Derived.Deep.RegionLaw
/- afterglowlaw14: spoil. It comes to an end, whatever the numbers are, and turns nothing below a block. No condition but sizes. -/
namespace Go.Proofs.YtfipdoofgbjbjaaGreat
open Go.RowKit
attribute [local go_sem] Oper.semAt_some
def likeV : Value → Value → Prop
  | .int k _, u => ∃ y, u = .int k y
  | .bool _, u => ∃ y, u = .bool y
  | v, u => u = v
theorem likeV.refl (v : Value) : likeV v v := by cases v <;> simp [likeV]
theorem likeV.trans {a b c : Value} (h : likeV a b) (k : likeV b c) : likeV a c := by
  cases a <;> simp only [likeV] at h ⊢ <;> first | (subst h; exact k) | (obtain ⟨y, rfl⟩ := h; exact k)
/-- cells keep their kinds; what is neither a number nor a bool is kept -/
def KK (w w' : World) : Prop := ∀ b o v, w.cell? ⟨b, o, none⟩ = some v → ∃ u, w'.cell? ⟨b, o, none⟩ = some u ∧ likeV v u ∧ (w.frozen? ⟨b, o, none⟩ = false → w'.frozen? ⟨b, o, none⟩ = false)
theorem KK.refl (w : World) : KK w w := fun _ _ v h => ⟨v, h, .refl v, id⟩
theorem KK.trans {a b c : World} (h : KK a b) (k : KK b c) : KK a c := fun x o v hv => by
  obtain ⟨u, h1, h2, h3⟩ := h x o v hv
  obtain ⟨t, k1, k2, k3⟩ := k x o u h1
  exact ⟨t, k1, h2.trans k2, fun hf => k3 (h3 hf)⟩
theorem KK.set {w : World} {b o : Nat} {v u : Value} (hv : w.cell? ⟨b, o, none⟩ = some v) (hl : likeV v u) : KK w (w.setCell ⟨b, o, none⟩ u) := fun x i t ht => by
  by_cases e : x = b ∧ i = o
  · obtain ⟨rfl, rfl⟩ := e
    rw [hv] at ht; cases ht
    exact ⟨u, by rw [World.cell?_setCell_same _ _ _ (by rw [hv])], hl, fun hf => by rw [World.frozen?_setCell]; exact hf⟩
  · exact ⟨t, (World.cell?_setCell_other w _ _ _ (fun he => e (by simp at he; omega))).trans ht, .refl t, fun hf => by rw [World.frozen?_setCell]; exact hf⟩
theorem cell_lt' {w : World} {b o : Nat} {v : Value} (h : w.cell? ⟨b, o, none⟩ = some v) : b < w.heap.size := by
  rcases Nat.lt_or_ge b w.heap.size with hb | hb
  · exact hb
  · unfold World.cell? at h
    simp [Array.getElem?_eq_none hb] at h
theorem KK.below {w w' : World} (hb : Below w.heap.size w w') : KK w w' := fun x i t ht =>
  ⟨t, (hb.cell (p := ⟨x, i, none⟩) (cell_lt' ht)).trans ht, .refl t, fun hf => (hb.frozen (p := ⟨x, i, none⟩) (cell_lt' ht)).trans hf⟩
theorem KK.slice {w w' : World} (h : KK w w') {b o : Nat} {A : Option Addr} {n c : Nat} (hc : w.cell? ⟨b, o, none⟩ = some (.slice A n c)) : w'.cell? ⟨b, o, none⟩ = some (.slice A n c) := by
  obtain ⟨u, h1, h2, _⟩ := h b o _ hc
  simp only [likeV] at h2
  rw [h1, h2]
theorem KK.int {w w' : World} (h : KK w w') {b o : Nat} {k : IntKind} {x : Int} (hc : w.cell? ⟨b, o, none⟩ = some (.int k x)) (hf : w.frozen? ⟨b, o, none⟩ = false) : (∃ y, w'.cell? ⟨b, o, none⟩ = some (.int k y)) ∧ w'.frozen? ⟨b, o, none⟩ = false := by
  obtain ⟨u, h1, ⟨y, rfl⟩, h3⟩ := h b o _ hc
  exact ⟨⟨y, h1⟩, h3 hf⟩
theorem KK.bool {w w' : World} (h : KK w w') {b o : Nat} {x : Bool} (hc : w.cell? ⟨b, o, none⟩ = some (.bool x)) (hf : w.frozen? ⟨b, o, none⟩ = false) : (∃ y, w'.cell? ⟨b, o, none⟩ = some (.bool y)) ∧ w'.frozen? ⟨b, o, none⟩ = false := by
  obtain ⟨u, h1, ⟨y, rfl⟩, h3⟩ := h b o _ hc
  exact ⟨⟨y, h1⟩, h3 hf⟩
theorem GrownP.sc {p : Nat → Prop} {w a : World} (h : GrownP p w a) {b : Nat} (hb : p b) {o : Nat} (u : Value) : GrownP p w (a.setCell ⟨b, o, none⟩ u) := h.trans (GrownP.ofGrown (grown_set (World.grownBy.refl a (some b)) o u) hb)
theorem GrownP.bl {p : Nat → Prop} {w a b : World} (h : GrownP p w a) (k : Below a.heap.size a b) : GrownP p w b := h.trans (GrownP.ofBelow k)
/-- a row of cells of a kind that may be written -/
def Wr (w : World) (p : Nat → Prop) (A : Option Addr) (n : Nat) (sz at' : Nat) (like : Value) : Prop := 0 < n → ∃ b off, A = some ⟨b, off, none⟩ ∧ p b ∧ ∀ k, k < n → ∃ v, w.cell? ⟨b, off + (k * sz + at'), none⟩ = some v ∧ likeV like v ∧ w.frozen? ⟨b, off + (k * sz + at'), none⟩ = false
theorem Wr.kk {w w' : World} {p : Nat → Prop} {A : Option Addr} {n sz at' : Nat} {l : Value} (h : Wr w p A n sz at' l) (k : KK w w') : Wr w' p A n sz at' l := fun hn => by
  obtain ⟨b, off, h1, h2, h3⟩ := h hn
  refine ⟨b, off, h1, h2, fun j hj => ?_⟩
  obtain ⟨v, k1, k2, k3⟩ := h3 j hj
  obtain ⟨u, g1, g2, g3⟩ := k b _ v k1
  exact ⟨u, g1, k2.trans g2, g3 k3⟩
/-- what may be spoiled -/
structure Spl (w : World) (p : Nat → Prop) (a : Ra) (nd : Nat) (es : List Qe) : Prop where
  wa : Wr w p a.A a.n 1 0 (.int .i64 0)
  wb : Wr w p a.B a.m 1 0 (.int .i64 0)
  wd : Wr w p a.D nd 1 0 (.bool false)
  wq : Wr w p a.Q a.nq 2 1 (.int .u64 0)
  qs : 0 < a.nq → ∃ b off, a.Q = some ⟨b, off, none⟩ ∧ ∀ k, k < a.nq → w.cell? ⟨b, off + k * 2, none⟩ = some (.slice (es[k]?.getD zQe).A (es[k]?.getD zQe).n (es[k]?.getD zQe).c)
  ql : ∀ k, k < a.nq → Wr w p (es[k]?.getD zQe).A (es[k]?.getD zQe).n 2 1 (.int .u64 0)
  na : a.n ≤ 1000
  nb : a.m ≤ 1000
  nn : nd ≤ 1000
  nq : a.nq ≤ 1000
  qn : ∀ k, k < a.nq → (es[k]?.getD zQe).n ≤ 1000
theorem Spl.kk {w w' : World} {p : Nat → Prop} {a : Ra} {nd : Nat} {es : List Qe} (h : Spl w p a nd es) (k : KK w w') : Spl w' p a nd es :=
  ⟨h.wa.kk k, h.wb.kk k, h.wd.kk k, h.wq.kk k, fun hn => by
    obtain ⟨b, off, h1, h2⟩ := h.qs hn
    exact ⟨b, off, h1, fun j hj => k.slice (h2 j hj)⟩, fun j hj => (h.ql j hj).kk k, h.na, h.nb, h.nn, h.nq, h.qn⟩
set_option maxRecDepth 100000 in
set_option maxHeartbeats 8000000 in
theorem spoil14_p (p : Nat → Prop) (s : St) (g : Gr) (es : List Qe) (a : Ra) (w : World) (h : Spl w p a g.nd.length es) :
    Calls Tryz.prog 13 #[rcv s g a] w fun e w' => (∃ v, e = .returned v) ∧ GrownP p w w' := by
  have HS := hid h
  have HB := hid (GrownP.refl p w)
  clear h
  go_enter Tryz.func13, Tryz.ntmps13
  have bx := below_box w (.cells (rcells s g a) 30)
  replace HS := hid (HS.out.kk (.below bx)); replace HB := hid (HB.out.bl bx)
  have P := hid (Blk.new w 30 (rcells s g a))
  clear bx
  obtain ⟨y00, y01, y02, y03, y04, y05, y06, y07, yf0⟩ := P.out.cells8
  go_wp2_with fail
  clear y00 y01 y02 y03 y04 y05 y06 y07 yf0
  have hz0 := hid (show (w.alloc (.cells (rcells s g a) 30)).heap.size = w.heap.size + 1 by simp)
  generalize w.alloc (.cells (rcells s g a) 30) = W0 at *
  have HQ3 := hid (show ∀ W', KK W0 W' → W'.cell? ⟨w.heap.size, 1, none⟩ = some (.slice a.A a.n a.k) ∧ W'.cell? ⟨w.heap.size, 2, none⟩ = some (.slice a.B a.m a.d) ∧ W'.cell? ⟨w.heap.size, 6, none⟩ = some (.slice a.D g.nd.length a.kd) ∧ W'.cell? ⟨w.heap.size, 7, none⟩ = some (.slice a.Q a.nq a.kq) from fun W' k => by
    obtain ⟨y00, y01, y02, y03, y04, y05, y06, y07, yf0⟩ := P.out.cells8
    exact ⟨k.slice y01, k.slice y02, k.slice y06, k.slice y07⟩)
  clear P
  go_loopw [12] (fun i wr => ∃ j : Nat, j ≤ a.n ∧ i = .int .i64 j ∧ KK W0 wr ∧ GrownP p w wr) (fun i _ => a.n - (intOf i).toNat)
  case atStart => exact ⟨0, Nat.zero_le _, rfl, .refl _, HB.out⟩
  case round =>
    obtain ⟨j, hj, rfl, hkk, hb⟩ := hrel
    have HKK1 := hid hkk; have HBB1 := hid hb
    clear hkk hb
    by_cases hjn : j < a.n
    ·skip
     have hji : (j : Int) < (a.n : Int) := by omega
     have hw1 : IntKind.i64.wrap ((j : Int) + 1) = (j : Int) + 1 := by rw [IntKind.wrap_i64]; have := HS.out.na; omega
     obtain ⟨y1, y2, y6, y7⟩ := HQ3.out _ HKK1.out
     obtain ⟨b, off, hA, hlb, hc⟩ := (HS.out.wa.kk HKK1.out) (by omega)
     obtain ⟨v, f0, ⟨x, rfl⟩, ff⟩ := hc j hjn
     rw [show off + (j * 1 + 0) = off + j by omega] at f0 ff
     rw [hA] at y1 ⊢
     clear hc
     go_wp2_with fail
     refine ⟨⟨j + 1, by omega, rfl, HKK1.out.trans (.set f0 ⟨_, rfl⟩), HBB1.out.sc hlb _⟩, ?_⟩
     have h1 : intOf (.int .i64 ((j : Int) + 1)) = (j : Int) + 1 := rfl
     have h2 : intOf (.int .i64 (j : Int)) = (j : Int) := rfl
     rw [h1, h2]; omega
    obtain rfl : j = a.n := by omega
    have hnn : ¬ ((a.n : Int) < (a.n : Int)) := by omega
    clear hjn hj
    obtain ⟨y1, y2, y6, y7⟩ := HQ3.out _ HKK1.out
    go_wp2_with fail
    clear y1 y2 y6 y7 hnn
    go_loopw [28] (fun i wr => ∃ j : Nat, j ≤ a.m ∧ i = .int .i64 j ∧ KK W0 wr ∧ GrownP p w wr) (fun i _ => a.m - (intOf i).toNat)
    case atStart => exact ⟨0, Nat.zero_le _, rfl, HKK1.out, HBB1.out⟩
    case round =>
      obtain ⟨j, hj, rfl, hkk, hb⟩ := hrel
      have HKK2 := hid hkk; have HBB2 := hid hb
      clear hkk hb
      by_cases hjn : j < a.m
      ·skip
       have hji : (j : Int) < (a.m : Int) := by omega
       have hw1 : IntKind.i64.wrap ((j : Int) + 1) = (j : Int) + 1 := by rw [IntKind.wrap_i64]; have := HS.out.nb; omega
       obtain ⟨y1, y2, y6, y7⟩ := HQ3.out _ HKK2.out
       obtain ⟨b, off, hA, hlb, hc⟩ := (HS.out.wb.kk HKK2.out) (by omega)
       obtain ⟨v, f0, ⟨x, rfl⟩, ff⟩ := hc j hjn
       rw [show off + (j * 1 + 0) = off + j by omega] at f0 ff
       rw [hA] at y2 ⊢
       clear hc
       go_wp2_with fail
       refine ⟨⟨j + 1, by omega, rfl, HKK2.out.trans (.set f0 ⟨_, rfl⟩), HBB2.out.sc hlb _⟩, ?_⟩
       have h1 : intOf (.int .i64 ((j : Int) + 1)) = (j : Int) + 1 := rfl
       have h2 : intOf (.int .i64 (j : Int)) = (j : Int) := rfl
       rw [h1, h2]; omega
      obtain rfl : j = a.m := by omega
      have hnn : ¬ ((a.m : Int) < (a.m : Int)) := by omega
      clear hjn hj
      obtain ⟨y1, y2, y6, y7⟩ := HQ3.out _ HKK2.out
      go_wp2_with fail
      clear y1 y2 y6 y7 hnn
      go_loopw [44] (fun i wr => ∃ j : Nat, j ≤ g.nd.length ∧ i = .int .i64 j ∧ KK W0 wr ∧ GrownP p w wr) (fun i _ => g.nd.length - (intOf i).toNat)
      case atStart => exact ⟨0, Nat.zero_le _, rfl, HKK2.out, HBB2.out⟩
      case round =>
        obtain ⟨j, hj, rfl, hkk, hb⟩ := hrel
        have HKK3 := hid hkk; have HBB3 := hid hb
        clear hkk hb
        by_cases hjn : j < g.nd.length
        ·skip
         have hji : (j : Int) < (g.nd.length : Int) := by omega
         have hw1 : IntKind.i64.wrap ((j : Int) + 1) = (j : Int) + 1 := by rw [IntKind.wrap_i64]; have := HS.out.nn; omega
         obtain ⟨y1, y2, y6, y7⟩ := HQ3.out _ HKK3.out
         obtain ⟨b, off, hA, hlb, hc⟩ := (HS.out.wd.kk HKK3.out) (by omega)
         obtain ⟨v, f0, ⟨x, rfl⟩, ff⟩ := hc j hjn
         rw [show off + (j * 1 + 0) = off + j by omega] at f0 ff
         rw [hA] at y6 ⊢
         have HCL := hid (show ∀ W', Below wr.heap.size wr W' → W'.cell? ⟨w.heap.size, 6, none⟩ = some (.slice (some ⟨b, off, none⟩) g.nd.length a.kd) ∧ W'.cell? ⟨b, off + j, none⟩ = some (.bool x) ∧ W'.frozen? ⟨b, off + j, none⟩ = false from fun W' hb =>
           ⟨(KK.below hb).slice y6, (hb.cell (p := ⟨b, off + j, none⟩) (cell_lt' f0)).trans f0, (hb.frozen (p := ⟨b, off + j, none⟩) (cell_lt' f0)).trans ff⟩)
         have HBQ := hid (Below.refl wr.heap.size wr)
         clear hc f0 ff y1 y2 y6 y7
         go_upto_region 14 with fail
         have bx := (Below.refl wr.heap.size wr).drew
         replace HBQ := hid (below_then HBQ.out bx)
         clear bx
         have hszd := hid (show wr.drew.heap.size = wr.heap.size from rfl)
         refine wp_region_noPanic ?_
         refine wp_region_held_tail 11 (fun W' : World => W'.cell? ⟨w.heap.size, 6, none⟩ = some (.slice (some ⟨b, off, none⟩) g.nd.length a.kd) ∧ W'.cell? ⟨b, off + j, none⟩ = some (.bool x)) #[false, false, false, false, false, false, false, false, false, false, false, false, false] (by kernel_rfl) ⟨(HCL.out _ HBQ.out).1, (HCL.out _ HBQ.out).2.1⟩ (by kernel_rfl) (by kernel_rfl) (fun hS => ?_)
         generalize wr.drew = Wd at *
         refine tkT 0 hS ?_
         refine tkT 1 hS ?_
         refine tkT 2 hS ?_
         refine tkT 3 hS ?_
         refine tkT 4 hS ?_
         refine tkT 5 hS ?_
         refine tkT 6 hS ?_
         refine tkT 7 hS ?_
         refine tkT 8 hS ?_
         refine tkT 9 hS ?_
         refine tkT 10 hS ?_
         refine wpAnyT_done (by kernel_rfl) ?_
         simp only [List.drop_succ_cons, List.drop_zero]
         clear hS
         obtain ⟨_, f0, ff⟩ := HCL.out _ HBQ.out
         go_wp2_with fail
         refine NoPanic.normal ?_
         go_wp2_with fail
         refine ⟨⟨j + 1, by omega, rfl, (HKK3.out.trans (.below HBQ.out)).trans (.set f0 ⟨_, rfl⟩), (HBB3.out.bl HBQ.out).sc hlb _⟩, ?_⟩
         have h1 : intOf (.int .i64 ((j : Int) + 1)) = (j : Int) + 1 := rfl
         have h2 : intOf (.int .i64 (j : Int)) = (j : Int) := rfl
         rw [h1, h2]; omega
        obtain rfl : j = g.nd.length := by omega
        have hnn : ¬ ((g.nd.length : Int) < (g.nd.length : Int)) := by omega
        clear hjn hj
        obtain ⟨y1, y2, y6, y7⟩ := HQ3.out _ HKK3.out
        go_wp2_with fail
        clear y1 y2 y6 y7 hnn
        go_loopw [63] (fun i wr => ∃ j : Nat, j ≤ a.nq ∧ i = .int .i64 j ∧ KK W0 wr ∧ GrownP p w wr) (fun i _ => a.nq - (intOf i).toNat)
        case atStart => exact ⟨0, Nat.zero_le _, rfl, HKK3.out, HBB3.out⟩
        case round =>
          obtain ⟨j, hj, rfl, hkk, hb⟩ := hrel
          have HKK4 := hid hkk; have HBB4 := hid hb
          clear hkk hb
          by_cases hjn : j < a.nq
          ·skip
           have hji : (j : Int) < (a.nq : Int) := by omega
           have hw1 : IntKind.i64.wrap ((j : Int) + 1) = (j : Int) + 1 := by rw [IntKind.wrap_i64]; have := HS.out.nq; omega
           obtain ⟨y1, y2, y6, y7⟩ := HQ3.out _ HKK4.out
           obtain ⟨b, off, hA, hc⟩ := (HS.out.kk HKK4.out).qs (by omega)
           have f0 := hc j hjn
           have HWQ := hid ((HS.out.kk HKK4.out).wq (by omega)); have HWL := hid ((HS.out.kk HKK4.out).ql j hjn)
           have f1 : ∃ v, wr.cell? ⟨b, off + j * 2 + 1, none⟩ = some (.int .u64 v) := by
             obtain ⟨b2, off2, hA2, _, hc2⟩ := HWQ.out
             rw [hA] at hA2; cases hA2
             obtain ⟨v, g0, ⟨x, rfl⟩, _⟩ := hc2 j hjn
             exact ⟨x, g0⟩
           obtain ⟨xo, f1⟩ := f1
           have HXN := hid (HS.out.qn j hjn)
           obtain ⟨x, hx⟩ : ∃ x, x = es[j]?.getD zQe := ⟨_, rfl⟩
           rw [← hx] at f0 HWL HXN
           obtain ⟨xl, xo', xA, xn, xc⟩ := x
           dsimp only at f0 HWL HXN
           have HAQ := hid hA
           rw [hA] at y7 ⊢
           clear hc hx hA
           have bx := below_box wr (.cells #[.slice xA xn xc, .int .u64 xo] 58)
           have PT := hid (Blk.new wr 58 #[.slice xA xn xc, .int .u64 xo])
           go_upto_region 19 with fail
           have HBQ := hid bx
           clear bx f0 f1 y1 y2 y6 y7
           generalize wr.alloc (.cells #[.slice xA xn xc, .int .u64 xo] 58) = W5 at *
           obtain ⟨t0, t1, tf⟩ := PT.out.cells2
           have HT := hid (show ∀ W', KK W5 W' → W'.cell? ⟨wr.heap.size, 0, none⟩ = some (.slice xA xn xc) from fun W' k => k.slice t0)
           have HK5 := hid (HKK4.out.trans (.below HBQ.out)); have HB5 := hid (HBB4.out.bl HBQ.out)
           replace HWQ := hid (show Wr W5 p a.Q a.nq 2 1 (.int .u64 0) from Wr.kk (fun _ => HWQ.out) (.below HBQ.out)); replace HWL := hid (show Wr W5 p xA xn 2 1 (.int .u64 0) from Wr.kk HWL.out (.below HBQ.out))
           go_wp2_with fail
           clear t0 t1 tf PT HBQ
           go_loopw [71] (fun i wr => ∃ k : Nat, k ≤ xn ∧ i = .int .i64 k ∧ KK W5 wr ∧ GrownP p w wr) (fun i _ => xn - (intOf i).toNat)
           case atStart => exact ⟨0, Nat.zero_le _, rfl, .refl _, HB5.out⟩
           case round =>
             obtain ⟨k, hk, rfl, hkk, hb⟩ := hrel
             have HKL := hid hkk; have HBL := hid hb
             clear hkk hb
             by_cases hkn : k < xn
             ·skip
              have hki : (k : Int) < (xn : Int) := by omega
              have hw2 : IntKind.i64.wrap ((k : Int) + 1) = (k : Int) + 1 := by rw [IntKind.wrap_i64]; have := HXN.out; omega
              obtain ⟨b3, off3, hA3, hlb3, hc3⟩ := (Wr.kk HWL.out HKL.out) (by omega)
              obtain ⟨v, f0, ⟨x, rfl⟩, ff⟩ := hc3 k hkn
              rw [← Nat.add_assoc] at f0 ff
              have t0 := HT.out _ HKL.out
              rw [hA3] at t0 ⊢
              clear hc3
              go_wp2_with fail
              refine ⟨⟨k + 1, by omega, rfl, HKL.out.trans (.set f0 ⟨_, rfl⟩), HBL.out.sc hlb3 _⟩, ?_⟩
              have h1 : intOf (.int .i64 ((k : Int) + 1)) = (k : Int) + 1 := rfl
              have h2 : intOf (.int .i64 (k : Int)) = (k : Int) := rfl
              rw [h1, h2]; omega
             obtain rfl : k = xn := by omega
             have hnn : ¬ ((k : Int) < (k : Int)) := by omega
             clear hkn hk
             have HK6 := hid (HK5.out.trans HKL.out)
             obtain ⟨y1, y2, y6, y7⟩ := HQ3.out _ HK6.out
             obtain ⟨b2, off2, hA2, hlb2, hc2⟩ := (Wr.kk HWQ.out HKL.out) (by omega)
             have hA4 := HAQ.out
             rw [hA4] at hA2
             cases hA2
             obtain ⟨v, f1, ⟨x1, rfl⟩, ff⟩ := hc2 j hjn
             rw [← Nat.add_assoc] at f1 ff
             rw [hA4] at y7
             clear hc2 hA4
             go_wp2_with fail
             refine ⟨⟨j + 1, by omega, rfl, HK6.out.trans (.set f1 ⟨_, rfl⟩), HBL.out.sc hlb2 _⟩, ?_⟩
             have h1 : intOf (.int .i64 ((j : Int) + 1)) = (j : Int) + 1 := rfl
             have h2 : intOf (.int .i64 (j : Int)) = (j : Int) := rfl
             rw [h1, h2]; omega
          obtain rfl : j = a.nq := by omega
          have hnn : ¬ ((a.nq : Int) < (a.nq : Int)) := by omega
          clear hjn hj
          obtain ⟨y1, y2, y6, y7⟩ := HQ3.out _ HKK4.out
          go_wp2_with fail
          go_end0
          exact ⟨⟨_, rfl⟩, HBB4.out⟩
end Go.Proofs.YtfipdoofgbjbjaaGreat

/- what rcu.Settle hands back may be spoiled, and those below it not. No condition. -/
namespace Go.Proofs.YtfipdoofgbjbjaaGreat
open Go.RowKit
theorem Ow.wr {α : Type} {enc : α → Value} {d : α} {w : World} {lo n c : Nat} {e : TypeId} {A : Option Addr} {xs : List α} {l : Value} (h : Ow enc w lo e A n c xs) (he : ∀ x, likeV l (enc x)) : Wr w (fun i => lo ≤ i ∧ i < w.heap.size) A n 1 0 l := fun hn => by
  obtain ⟨g, e0, hlo, _, c0, _⟩ := h.at_ d hn
  refine ⟨g, 0, e0, ⟨hlo, cell_lt' c0⟩, fun k hk => ?_⟩
  obtain ⟨g1, e1, _, _, c1, f1⟩ := h.at_ d hk
  rw [e0] at e1; cases e1
  rw [show 0 + (k * 1 + 0) = k by omega]
  exact ⟨_, c1, he _, f1⟩
theorem Qown.wr {w : World} {lo n : Nat} {A : Option Addr} {xs : List Cb} (h : Qown w lo A n xs) : Wr w (fun i => lo ≤ i ∧ i < w.heap.size) A n 2 1 (.int .u64 0) := fun hn => by
  obtain ⟨b, off, e0, hlo, _, hc⟩ := h.sm.row hn
  refine ⟨b, off, e0, ⟨hlo, cell_lt' (hc 0 hn 1 (by omega))⟩, fun k hk => ?_⟩
  exact ⟨_, by rw [← Nat.add_assoc]; exact hc k hk 1 (by omega), ⟨_, rfl⟩, h.free hn b off e0 _⟩
theorem Wr.mono {w : World} {p q : Nat → Prop} {A : Option Addr} {n sz at' : Nat} {l : Value} (h : Wr w p A n sz at' l) (k : ∀ i, p i → q i) : Wr w q A n sz at' l := fun hn => by
  obtain ⟨b, off, h1, h2, h3⟩ := h hn
  exact ⟨b, off, h1, k _ h2, h3⟩
theorem Spl.mono {w : World} {p q : Nat → Prop} {a : Ra} {nd : Nat} {es : List Qe} (h : Spl w p a nd es) (k : ∀ i, p i → q i) : Spl w q a nd es :=
  ⟨h.wa.mono k, h.wb.mono k, h.wd.mono k, h.wq.mono k, h.qs, fun j hj => (h.ql j hj).mono k, h.na, h.nb, h.nn, h.nq, h.qn⟩
theorem CX.spl {w : World} {l gc : Nat} {s : St} {g : Gr} {es : List Qe} {ran : List Int} {a : Ra} {R : Option Addr} {nr kr : Nat} (h : CX w l gc s g es ran a R nr kr) (hd : g.nd.length ≤ 1000) (hq : a.nq ≤ 1000) : Spl w (fun i => l ≤ i ∧ i < w.heap.size) a g.nd.length es := by
  have hm : ∀ k, k < a.nq → es[k]?.getD zQe ∈ es := fun k hk => by
    have : k < es.length := by rw [h.qs.len]; exact hk
    rw [List.getElem?_eq_getElem this]; exact List.getElem_mem _
  refine ⟨h.ro.oa.wr (d := 0) (fun _ => ⟨_, rfl⟩), h.ro.ob.wr (d := 0) (fun _ => ⟨_, rfl⟩), h.gd.wr (d := false) (fun _ => ⟨_, rfl⟩), fun hn => ?_, fun hn => ?_, fun k hk => (h.qe _ (hm k hk)).1.wr, h.ro.hn, h.ro.hm, hd, hq, fun k hk => (h.qe _ (hm k hk)).2.2.1⟩
  · obtain ⟨g0, e0, hlo, _, c0, _⟩ := h.qs.at_ zQe hn
    refine ⟨g0, 0, e0, ⟨hlo, cell_lt' (c0 0 (by omega))⟩, fun k hk => ?_⟩
    obtain ⟨g1, e1, _, _, c1, f1⟩ := h.qs.at_ zQe hk
    rw [e0] at e1; cases e1
    exact ⟨_, by rw [Nat.zero_add]; exact c1 1 (by omega), ⟨_, rfl⟩, f1 _⟩
  · obtain ⟨g0, e0, hlo, _⟩ := h.qs.at_ zQe hn
    refine ⟨g0, 0, e0, fun k hk => ?_⟩
    obtain ⟨g1, e1, _, _, c1, f1⟩ := h.qs.at_ zQe hk
    rw [e0] at e1; cases e1
    rw [Nat.zero_add]
    exact c1 0 (by omega)
/-- what Settle hands back -/
def SeQ (r : Int × St × Gr × Qs × List Int) (w : World) (x : Ending) (w' : World) : Prop :=
  ∃ a es R kr, x = .returned (.tuple #[rcv r.2.1 r.2.2.1 a, .slice R r.2.2.2.2.length kr, .int .i64 r.1]) ∧ ql es = r.2.2.2.1 ∧ a.nq = es.length ∧ RcP (fun i => i < w.heap.size) w' r.2.1 r.2.2.1 es a ∧ Ow u64v w' w.heap.size 35 R r.2.2.2.2.length kr r.2.2.2.2 ∧ Spl w' (fun i => w.heap.size ≤ i) a r.2.2.1.nd.length es ∧ Below w.heap.size w w'
end Go.Proofs.YtfipdoofgbjbjaaGreat

/- afterglowlaw14.wakes. No condition. -/
namespace Go.Proofs.YtfipdoofgbjbjaaGreat
open Go.RowKit
attribute [local go_sem] Oper.semAt_some
/-- words that were run, and the error -/
def WkS (w0 wx : World) (E : Option Addr) (ke : Nat) (ran : List Int) : Prop := Ow u64v wx w0.heap.size 35 E ran.length ke ran ∧ Below w0.heap.size w0 wx
/-- all of it in a box -/
def WkB (w0 wx : World) (g6 : Nat) (a : Ra) (s1 : St) (g1 : Gr) (es : List Qe) (q1 : Qs) : Prop := Blk wx g6 30 (rcells s1 g1 a) ∧ RcR wx s1 g1 es a ∧ ql es = q1 ∧ Below w0.heap.size w0 wx ∧ w0.heap.size ≤ g6
set_option maxRecDepth 100000 in
set_option maxHeartbeats 8000000 in
theorem rcwakes_any (w : World) : Calls Tryz.prog 6 #[] w fun x w' => x = .returned (.bool true) ∧ Below w.heap.size w w' := by
  obtain ⟨s1, g1, q1, hf1, hf2, hf3, hf4, ⟨s3, g3, q3, hf5⟩, ⟨s4, g4, q4, hf6⟩⟩ := wk_facts
  have F1 := hid hf1; have F2 := hid hf2; have F3 := hid hf3; have F4 := hid hf4; have F5 := hid hf5; have F6 := hid hf6
  have HNG := hid (nGood (n := 2) (by omega) (by omega))
  have HG1 := hid (show RcGood s1 g1 q1 by have := good_opsA (L := T2) (ran := []) HNG.out (by rw [hf1]); rw [hf1] at this; exact this)
  clear hf1 hf2 hf3 hf4 hf5 hf6
  have HB := hid (Below.refl w.heap.size w)
  go_enter Tryz.func6, Tryz.ntmps6
  go_wp2_with fail
  refine (rnew_ok 2 w (by omega) (by omega)).mono ?_
  rintro e w1 ⟨a, rfl, hnq, ht, hb⟩
  have RT := hid ht; have HNQ := hid hnq
  replace HB := hid (below_then HB.out hb)
  clear hb ht hnq
  have bx := below_box w1 (.cells (rcells (nSt 2) (nGr 2) a) 30)
  replace RT := hid (RT.out.step bx); replace HB := hid (below_then HB.out bx)
  clear bx
  have P1 := hid (Blk.new w1 30 (rcells (nSt 2) (nGr 2) a))
  go_upto_region 2 with fail
  generalize w1.alloc (.cells (rcells (nSt 2) (nGr 2) a) 30) = W0 at *
  have RR := hid (show RcR W0 (nSt 2) (nGr 2) (List.replicate 2 zQe) a from RT.out.rcr (by decide) (by decide) (by rw [HNQ.out]; decide) (fun x hx => by obtain rfl := (List.mem_replicate.1 hx).2; decide))
  have HQ1 := hid (show RcGood (nSt 2) (nGr 2) (ql (List.replicate 2 zQe)) by rw [ql_rep]; exact HNG.out)
  have G1 := hid (show opsA (nSt 2) (nGr 2) (ql (List.replicate 2 zQe)) [] T1 = (0, s4, g4, q4, [7]) by rw [ql_rep]; exact F6.out)
  have G2 := hid (show opsA (nSt 2) (nGr 2) (ql (List.replicate 2 zQe)) [] T2 = (0, s1, g1, q1, []) by rw [ql_rep]; exact F1.out)
  clear RT HNQ F1 F6 HNG
  have HQ := hid (Below.refl W0.heap.size W0)
  have XP := P1; have XR := RR
  clear P1 RR
  go_cut [3, 4, 5] (fun s3 s4 s5 wx => ∃ E ke, s4 = .slice E 1 ke ∧ s5 = .int .i64 0 ∧ WkS W0 wx E ke [7])
  case first =>
      have hKP := hid (show ∀ W' : World, Below W0.heap.size W0 W' → (fun W' : World => W'.cell? ⟨w1.heap.size, 0, none⟩ = some (.int .i64 (nSt 2).1) ∧ W'.cell? ⟨w1.heap.size, 1, none⟩ = some (.slice a.A a.n a.k) ∧ W'.cell? ⟨w1.heap.size, 2, none⟩ = some (.slice a.B a.m a.d) ∧ W'.cell? ⟨w1.heap.size, 3, none⟩ = some (.int .i64 (nGr 2).dn) ∧ W'.cell? ⟨w1.heap.size, 4, none⟩ = some (.int .i64 (nGr 2).ak) ∧ W'.cell? ⟨w1.heap.size, 5, none⟩ = some (.bool (nGr 2).on) ∧ W'.cell? ⟨w1.heap.size, 6, none⟩ = some (.slice a.D (nGr 2).nd.length a.kd) ∧ W'.cell? ⟨w1.heap.size, 7, none⟩ = some (.slice a.Q a.nq a.kq)) W' from fun W' hb => ⟨(XP.out.step hb).cells8.1, (XP.out.step hb).cells8.2.1, (XP.out.step hb).cells8.2.2.1, (XP.out.step hb).cells8.2.2.2.1, (XP.out.step hb).cells8.2.2.2.2.1, (XP.out.step hb).cells8.2.2.2.2.2.1, (XP.out.step hb).cells8.2.2.2.2.2.2.1, (XP.out.step hb).cells8.2.2.2.2.2.2.2.1⟩)
      refine' merge_by (fun K0 => ?_) ?_
      rotate_left
      refine' merge_by (fun K1 => ?_) ?_
      rotate_left
      refine' merge_by (fun K2 => ?_) ?_
      rotate_left
      refine' merge_by (fun K3 => ?_) ?_
      rotate_left
      refine' merge_by (fun K4 => ?_) ?_
      rotate_left
      refine' merge_by (fun K5 => ?_) ?_
      rotate_left
      refine' merge_by (fun K6 => ?_) ?_
      rotate_left
      ·skip
       have bx := (Below.refl W0.heap.size W0).drew
       replace HQ := hid (below_then HQ.out bx)
       clear bx
       refine wp_region_noPanic ?_
       refine wp_region_held_drew (S := (fun W' : World => W'.cell? ⟨w1.heap.size, 0, none⟩ = some (.int .i64 (nSt 2).1) ∧ W'.cell? ⟨w1.heap.size, 1, none⟩ = some (.slice a.A a.n a.k) ∧ W'.cell? ⟨w1.heap.size, 2, none⟩ = some (.slice a.B a.m a.d) ∧ W'.cell? ⟨w1.heap.size, 3, none⟩ = some (.int .i64 (nGr 2).dn) ∧ W'.cell? ⟨w1.heap.size, 4, none⟩ = some (.int .i64 (nGr 2).ak) ∧ W'.cell? ⟨w1.heap.size, 5, none⟩ = some (.bool (nGr 2).on) ∧ W'.cell? ⟨w1.heap.size, 6, none⟩ = some (.slice a.D (nGr 2).nd.length a.kd) ∧ W'.cell? ⟨w1.heap.size, 7, none⟩ = some (.slice a.Q a.nq a.kq))) (by kernel_rfl) (hKP.out _ HQ.out) (fun hS => ?_)
       generalize W0.drew = Wd at *
       refine tk 0 hS ?_
       refine rdy [1, 12] (csy (fun K hK => ?_) (csy (fun K hK => ?_) AllReadyH.nil))
       ·skip
        have hpre := hid (show W0.heap.size ≤ Wd.heap.size from HQ.out.size)
        go_simp
        refine (op_any 3 0 7 _).mono ?_
        rintro e wp1 ⟨rfl, hb⟩
        replace HQ := hid (below_then HQ.out hb)
        clear hb
        go_wp2_with fail
        clear hpre
        clear hS
        refine ky hK (hKP.out _ HQ.out) fun hS => ?_
        clear hK K
        refine rdy [2, 12] (csy (fun K hK => ?_) (csy (fun K hK => ?_) AllReadyH.nil))
        ·skip
         have hpre := hid (show W0.heap.size ≤ wp1.heap.size from HQ.out.size)
         go_simp
         refine (op_any 4 0 0 _).mono ?_
         rintro e wp2 ⟨rfl, hb⟩
         replace HQ := hid (below_then HQ.out hb)
         clear hb
         go_wp2_with fail
         clear hpre
         clear hS
         refine ky hK (hKP.out _ HQ.out) fun hS => ?_
         clear hK K
         refine rdy [3, 12] (csy (fun K hK => ?_) (csy (fun K hK => ?_) AllReadyH.nil))
         ·skip
          have hpre := hid (show W0.heap.size ≤ wp2.heap.size from HQ.out.size)
          go_simp
          refine (op_any 4 0 0 _).mono ?_
          rintro e wp3 ⟨rfl, hb⟩
          replace HQ := hid (below_then HQ.out hb)
          clear hb
          go_wp2_with fail
          clear hpre
          clear hS
          refine ky hK (hKP.out _ HQ.out) fun hS => ?_
          clear hK K
          refine rdy [4, 12] (csy (fun K hK => ?_) (csy (fun K hK => ?_) AllReadyH.nil))
          ·skip
           have hpre := hid (show W0.heap.size ≤ wp3.heap.size from HQ.out.size)
           go_simp
           refine (op_any 4 1 0 _).mono ?_
           rintro e wp4 ⟨rfl, hb⟩
           replace HQ := hid (below_then HQ.out hb)
           clear hb
           go_wp2_with fail
           clear hpre
           clear hS
           refine ky hK (hKP.out _ HQ.out) fun hS => ?_
           clear hK K
           refine rdy [5, 12] (csy (fun K hK => ?_) (csy (fun K hK => ?_) AllReadyH.nil))
           ·skip
            have hpre := hid (show W0.heap.size ≤ wp4.heap.size from HQ.out.size)
            go_simp
            refine (op_any 5 0 0 _).mono ?_
            rintro e wp5 ⟨rfl, hb⟩
            replace HQ := hid (below_then HQ.out hb)
            clear hb
            go_wp2_with fail
            clear hpre
            clear hS
            refine ky hK (hKP.out _ HQ.out) fun hS => ?_
            clear hK K
            refine rdy [6, 12] (csy (fun K hK => ?_) (csy (fun K hK => ?_) AllReadyH.nil))
            ·skip
             have hpre := hid (show W0.heap.size ≤ wp5.heap.size from HQ.out.size)
             go_simp
             refine named_alloc ?_
             intro Wa6 hbk hb hsz
             replace HQ := hid (below_then HQ.out hb)
             obtain ⟨ga6, hga⟩ : ∃ g, g = wp5.heap.size := ⟨_, rfl⟩
             rw [← hga] at hbk ⊢
             have hlo6 := hid (show W0.heap.size ≤ ga6 by have := hpre.out; omega)
             have PT := hid hbk
             clear hb hbk hsz hga hpre
             clear hS
             refine ky hK (hKP.out _ HQ.out) fun hS => ?_
             clear hK K
             refine rdy [7, 12] (csy (fun K hK => ?_) (csy (fun K hK => ?_) AllReadyH.nil))
             ·skip
              have hpre := hid (show W0.heap.size ≤ Wa6.heap.size from HQ.out.size)
              have hpl6 := hid PT.out.lt
              go_simp
              refine (wk_run (L := T1) (some ⟨_, 0, none⟩) 5 5 _ (XR.out.step HQ.out) HQ1.out (PT.out.smO (xs := T1) rfl (by intro k hk j hj; have hk' : k < 5 := hk; have hj' : j < 3 := hj; match k, hk', j, hj' with | 0, _, 0, _ => rfl | 0, _, 1, _ => rfl | 0, _, 2, _ => rfl | 1, _, 0, _ => rfl | 1, _, 1, _ => rfl | 1, _, 2, _ => rfl | 2, _, 0, _ => rfl | 2, _, 1, _ => rfl | 2, _, 2, _ => rfl | 3, _, 0, _ => rfl | 3, _, 1, _ => rfl | 3, _, 2, _ => rfl | 4, _, 0, _ => rfl | 4, _, 1, _ => rfl | 4, _, 2, _ => rfl)) (by omega) G1.out).mono ?_
              rintro e wpl ⟨a9, es9, R9, kr9, rfl, hq9, hr9, ho9, hb⟩
              replace PT := hid (PT.out.step hb); replace HQ := hid (below_then HQ.out hb)
              clear hb
              have RO := hid (ho9.mono (show W0.heap.size ≤ _ by have := HQ.out.size; have := hpre.out; have := hpl6.out; have := hlo6.out; have := PT.out.lt; omega))
              clear hr9 ho9 hq9
              go_wp2_with fail
              clear hpre hpl6
              clear hS
              refine ky hK (hKP.out _ HQ.out) fun hS => ?_
              clear hK K
              refine tk 8 hS ?_
              refine tk 9 hS ?_
              refine tk 10 hS ?_
              refine tk 11 hS ?_
              refine rdy [12] (csy (fun K hK => ?_) AllReadyH.nil)
              have hpre := hid (show W0.heap.size ≤ wpl.heap.size from HQ.out.size)
              go_simp
              refine named_alloc ?_
              intro Wa12 hbk hb hsz
              replace PT := hid (PT.out.step hb); replace RO := hid (RO.out.step hb); replace HQ := hid (below_then HQ.out hb)
              obtain ⟨ga12, hga⟩ : ∃ g, g = wpl.heap.size := ⟨_, rfl⟩
              rw [← hga] at hbk ⊢
              have hlo12 := hid (show W0.heap.size ≤ ga12 by have := hpre.out; omega)
              have ZR := hid hbk
              clear hb hbk hsz hga hpre
              clear hS
              refine ky hK (hKP.out _ HQ.out) fun hS => ?_
              clear hK K
              revert hS; revert hlo12; revert hlo6; revert HQ; revert ZR; revert RO; revert PT; revert ga12; revert kr9; revert R9; revert a9; revert ga6; revert Wa12
              exact K0.out
             ·skip
              have hpre := hid (show W0.heap.size ≤ Wa6.heap.size from HQ.out.size)
              go_simp
              refine named_alloc ?_
              intro Wa12 hbk hb hsz
              replace PT := hid (PT.out.step hb); replace HQ := hid (below_then HQ.out hb)
              obtain ⟨ga12, hga⟩ : ∃ g, g = Wa6.heap.size := ⟨_, rfl⟩
              rw [← hga] at hbk ⊢
              have hlo12 := hid (show W0.heap.size ≤ ga12 by have := hpre.out; omega)
              have ZR := hid hbk
              clear hb hbk hsz hga hpre
              clear hS
              refine ky hK (hKP.out _ HQ.out) fun hS => ?_
              clear hK K
              revert hS; revert hlo12; revert hlo6; revert HQ; revert ZR; revert PT; revert ga12; revert ga6; revert Wa12
              exact K1.out
            ·skip
             have hpre := hid (show W0.heap.size ≤ wp5.heap.size from HQ.out.size)
             go_simp
             refine named_alloc ?_
             intro Wa12 hbk hb hsz
             replace HQ := hid (below_then HQ.out hb)
             obtain ⟨ga12, hga⟩ : ∃ g, g = wp5.heap.size := ⟨_, rfl⟩
             rw [← hga] at hbk ⊢
             have hlo12 := hid (show W0.heap.size ≤ ga12 by have := hpre.out; omega)
             have ZR := hid hbk
             clear hb hbk hsz hga hpre
             clear hS
             refine ky hK (hKP.out _ HQ.out) fun hS => ?_
             clear hK K
             revert hS; revert hlo12; revert HQ; revert ZR; revert ga12; revert Wa12
             exact K2.out
           ·skip
            have hpre := hid (show W0.heap.size ≤ wp4.heap.size from HQ.out.size)
            go_simp
            refine named_alloc ?_
            intro Wa12 hbk hb hsz
            replace HQ := hid (below_then HQ.out hb)
            obtain ⟨ga12, hga⟩ : ∃ g, g = wp4.heap.size := ⟨_, rfl⟩
            rw [← hga] at hbk ⊢
            have hlo12 := hid (show W0.heap.size ≤ ga12 by have := hpre.out; omega)
            have ZR := hid hbk
            clear hb hbk hsz hga hpre
            clear hS
            refine ky hK (hKP.out _ HQ.out) fun hS => ?_
            clear hK K
            revert hS; revert hlo12; revert HQ; revert ZR; revert ga12; revert Wa12
            exact K3.out
          ·skip
           have hpre := hid (show W0.heap.size ≤ wp3.heap.size from HQ.out.size)
           go_simp
           refine named_alloc ?_
           intro Wa12 hbk hb hsz
           replace HQ := hid (below_then HQ.out hb)
           obtain ⟨ga12, hga⟩ : ∃ g, g = wp3.heap.size := ⟨_, rfl⟩
           rw [← hga] at hbk ⊢
           have hlo12 := hid (show W0.heap.size ≤ ga12 by have := hpre.out; omega)
           have ZR := hid hbk
           clear hb hbk hsz hga hpre
           clear hS
           refine ky hK (hKP.out _ HQ.out) fun hS => ?_
           clear hK K
           revert hS; revert hlo12; revert HQ; revert ZR; revert ga12; revert Wa12
           exact K4.out
         ·skip
          have hpre := hid (show W0.heap.size ≤ wp2.heap.size from HQ.out.size)
          go_simp
          refine named_alloc ?_
          intro Wa12 hbk hb hsz
          replace HQ := hid (below_then HQ.out hb)
          obtain ⟨ga12, hga⟩ : ∃ g, g = wp2.heap.size := ⟨_, rfl⟩
          rw [← hga] at hbk ⊢
          have hlo12 := hid (show W0.heap.size ≤ ga12 by have := hpre.out; omega)
          have ZR := hid hbk
          clear hb hbk hsz hga hpre
          clear hS
          refine ky hK (hKP.out _ HQ.out) fun hS => ?_
          clear hK K
          revert hS; revert hlo12; revert HQ; revert ZR; revert ga12; revert Wa12
          exact K5.out
        ·skip
         have hpre := hid (show W0.heap.size ≤ wp1.heap.size from HQ.out.size)
         go_simp
         refine named_alloc ?_
         intro Wa12 hbk hb hsz
         replace HQ := hid (below_then HQ.out hb)
         obtain ⟨ga12, hga⟩ : ∃ g, g = wp1.heap.size := ⟨_, rfl⟩
         rw [← hga] at hbk ⊢
         have hlo12 := hid (show W0.heap.size ≤ ga12 by have := hpre.out; omega)
         have ZR := hid hbk
         clear hb hbk hsz hga hpre
         clear hS
         refine ky hK (hKP.out _ HQ.out) fun hS => ?_
         clear hK K
         revert hS; revert hlo12; revert HQ; revert ZR; revert ga12; revert Wa12
         exact K6.out
       ·skip
        have hpre := hid (show W0.heap.size ≤ Wd.heap.size from HQ.out.size)
        go_simp
        refine named_alloc ?_
        intro Wa12 hbk hb hsz
        replace HQ := hid (below_then HQ.out hb)
        obtain ⟨ga12, hga⟩ : ∃ g, g = Wd.heap.size := ⟨_, rfl⟩
        rw [← hga] at hbk ⊢
        have hlo12 := hid (show W0.heap.size ≤ ga12 by have := hpre.out; omega)
        have ZR := hid hbk
        clear hb hbk hsz hga hpre
        clear hS
        refine ky hK (hKP.out _ HQ.out) fun hS => ?_
        clear hK K
        refine rdy [1] (csy (fun K hK => ?_) AllReadyH.nil)
        have hpre := hid (show W0.heap.size ≤ Wa12.heap.size from HQ.out.size)
        have hpl12 := hid ZR.out.lt
        go_simp
        refine (op_any 3 0 7 _).mono ?_
        rintro e wp1 ⟨rfl, hb⟩
        replace ZR := hid (ZR.out.step hb); replace HQ := hid (below_then HQ.out hb)
        clear hb
        go_wp2_with fail
        clear hpre hpl12
        clear hS
        refine ky hK (hKP.out _ HQ.out) fun hS => ?_
        clear hK K
        revert hS; revert hlo12; revert HQ; revert ZR; revert ga12; revert wp1
        exact K6.out
      ·skip
       intro Wm ga12 ZR HQ hlo12 hS
       refine rdy [2] (csy (fun K hK => ?_) AllReadyH.nil)
       have hpre := hid (show W0.heap.size ≤ Wm.heap.size from HQ.out.size)
       have hpl12 := hid ZR.out.lt
       go_simp
       refine (op_any 4 0 0 _).mono ?_
       rintro e wp2 ⟨rfl, hb⟩
       replace ZR := hid (ZR.out.step hb); replace HQ := hid (below_then HQ.out hb)
       clear hb
       go_wp2_with fail
       clear hpre hpl12
       clear hS
       refine ky hK (hKP.out _ HQ.out) fun hS => ?_
       clear hK K
       revert hS; revert hlo12; revert HQ; revert ZR; revert ga12; revert wp2
       exact K5.out
      ·skip
       intro Wm ga12 ZR HQ hlo12 hS
       refine rdy [3] (csy (fun K hK => ?_) AllReadyH.nil)
       have hpre := hid (show W0.heap.size ≤ Wm.heap.size from HQ.out.size)
       have hpl12 := hid ZR.out.lt
       go_simp
       refine (op_any 4 0 0 _).mono ?_
       rintro e wp3 ⟨rfl, hb⟩
       replace ZR := hid (ZR.out.step hb); replace HQ := hid (below_then HQ.out hb)
       clear hb
       go_wp2_with fail
       clear hpre hpl12
       clear hS
       refine ky hK (hKP.out _ HQ.out) fun hS => ?_
       clear hK K
       revert hS; revert hlo12; revert HQ; revert ZR; revert ga12; revert wp3
       exact K4.out
      ·skip
       intro Wm ga12 ZR HQ hlo12 hS
       refine rdy [4] (csy (fun K hK => ?_) AllReadyH.nil)
       have hpre := hid (show W0.heap.size ≤ Wm.heap.size from HQ.out.size)
       have hpl12 := hid ZR.out.lt
       go_simp
       refine (op_any 4 1 0 _).mono ?_
       rintro e wp4 ⟨rfl, hb⟩
       replace ZR := hid (ZR.out.step hb); replace HQ := hid (below_then HQ.out hb)
       clear hb
       go_wp2_with fail
       clear hpre hpl12
       clear hS
       refine ky hK (hKP.out _ HQ.out) fun hS => ?_
       clear hK K
       revert hS; revert hlo12; revert HQ; revert ZR; revert ga12; revert wp4
       exact K3.out
      ·skip
       intro Wm ga12 ZR HQ hlo12 hS
       refine rdy [5] (csy (fun K hK => ?_) AllReadyH.nil)
       have hpre := hid (show W0.heap.size ≤ Wm.heap.size from HQ.out.size)
       have hpl12 := hid ZR.out.lt
       go_simp
       refine (op_any 5 0 0 _).mono ?_
       rintro e wp5 ⟨rfl, hb⟩
       replace ZR := hid (ZR.out.step hb); replace HQ := hid (below_then HQ.out hb)
       clear hb
       go_wp2_with fail
       clear hpre hpl12
       clear hS
       refine ky hK (hKP.out _ HQ.out) fun hS => ?_
       clear hK K
       revert hS; revert hlo12; revert HQ; revert ZR; revert ga12; revert wp5
       exact K2.out
      ·skip
       intro Wm ga12 ZR HQ hlo12 hS
       refine rdy [6] (csy (fun K hK => ?_) AllReadyH.nil)
       have hpre := hid (show W0.heap.size ≤ Wm.heap.size from HQ.out.size)
       go_simp
       refine named_alloc ?_
       intro Wa6 hbk hb hsz
       replace ZR := hid (ZR.out.step hb); replace HQ := hid (below_then HQ.out hb)
       obtain ⟨ga6, hga⟩ : ∃ g, g = Wm.heap.size := ⟨_, rfl⟩
       rw [← hga] at hbk ⊢
       have hlo6 := hid (show W0.heap.size ≤ ga6 by have := hpre.out; omega)
       have PT := hid hbk
       clear hb hbk hsz hga hpre
       clear hS
       refine ky hK (hKP.out _ HQ.out) fun hS => ?_
       clear hK K
       revert hS; revert hlo12; revert hlo6; revert HQ; revert ZR; revert PT; revert ga12; revert ga6; revert Wa6
       exact K1.out
      ·skip
       intro Wm ga6 ga12 PT ZR HQ hlo6 hlo12 hS
       refine rdy [7] (csy (fun K hK => ?_) AllReadyH.nil)
       have hpre := hid (show W0.heap.size ≤ Wm.heap.size from HQ.out.size)
       have hpl6 := hid PT.out.lt
       have hpl12 := hid ZR.out.lt
       go_simp
       refine (wk_run (L := T1) (some ⟨_, 0, none⟩) 5 5 _ (XR.out.step HQ.out) HQ1.out (PT.out.smO (xs := T1) rfl (by intro k hk j hj; have hk' : k < 5 := hk; have hj' : j < 3 := hj; match k, hk', j, hj' with | 0, _, 0, _ => rfl | 0, _, 1, _ => rfl | 0, _, 2, _ => rfl | 1, _, 0, _ => rfl | 1, _, 1, _ => rfl | 1, _, 2, _ => rfl | 2, _, 0, _ => rfl | 2, _, 1, _ => rfl | 2, _, 2, _ => rfl | 3, _, 0, _ => rfl | 3, _, 1, _ => rfl | 3, _, 2, _ => rfl | 4, _, 0, _ => rfl | 4, _, 1, _ => rfl | 4, _, 2, _ => rfl)) (by omega) G1.out).mono ?_
       rintro e wpl ⟨a9, es9, R9, kr9, rfl, hq9, hr9, ho9, hb⟩
       replace PT := hid (PT.out.step hb); replace ZR := hid (ZR.out.step hb); replace HQ := hid (below_then HQ.out hb)
       clear hb
       have RO := hid (ho9.mono (show W0.heap.size ≤ _ by have := HQ.out.size; have := hpre.out; have := hpl6.out; have := hpl12.out; have := hlo6.out; have := PT.out.lt; have := hlo12.out; have := ZR.out.lt; omega))
       clear hr9 ho9 hq9
       go_wp2_with fail
       clear hpre hpl6 hpl12
       clear hS
       refine ky hK (hKP.out _ HQ.out) fun hS => ?_
       clear hK K
       refine tk 8 hS ?_
       refine tk 9 hS ?_
       refine tk 10 hS ?_
       refine tk 11 hS ?_
       revert hS; revert hlo12; revert hlo6; revert HQ; revert ZR; revert RO; revert PT; revert ga12; revert kr9; revert R9; revert a9; revert ga6; revert wpl
       exact K0.out
      ·skip
       intro Wm ga6 a9 R9 kr9 ga12 PT RO ZR HQ hlo6 hlo12 hS
       refine rdy [13] (csy (fun K hK => ?_) AllReadyH.nil)
       have hpre := hid (show W0.heap.size ≤ Wm.heap.size from HQ.out.size)
       obtain ⟨y00, y01, y02, y03, y04, y05, y06, y07, yf0⟩ := ZR.out.cells8
       go_simp
       clear y00 y01 y02 y03 y04 y05 y06 y07 yf0
       refine named_store_8_8_0 ZR.out ?_
       intro Ws13 hbk hgr hsz
       clear hsz
       replace RO := hid (RO.out.keptR ZR.out (by decide) hgr)
       replace HQ := hid (HQ.out.grown hgr HQ.out.size (fun r e => by cases e; have := HQ.out.size; have := hlo6.out; have := PT.out.lt; have := hlo12.out; have := ZR.out.lt; omega))
       replace ZR := hid hbk
       clear hbk hgr hpre
       clear hS
       refine ky hK (hKP.out _ HQ.out) fun hS => ?_
       clear hK K
       refine tk 14 hS ?_
       refine tk 15 hS ?_
       refine wpAnyH_done (by kernel_rfl) ?_ _
       refine NoPanic.normal ?_
       clear hS
       go_wp2_with fail
       go_meet
       exact ⟨_, _, rfl, rfl, RO.out, HQ.out⟩
  case rest =>
    obtain ⟨E2, ke2, rfl, rfl, h1, h2⟩ := hcut
    rename World => W2
    have EL := hid h1
    replace HB := hid (below_then HB.out h2); replace XP := hid (XP.out.step h2); replace XR := hid (XR.out.step h2)
    clear h1 h2 HQ
    have HQ := hid (Below.refl W2.heap.size W2)
    go_upto_region 3 with fail
    go_cut [6, 7, 8] (fun s6 s7 s8 wx => ∃ g6 a6 es6, s6 = ptr g6 ∧ s8 = .int .i64 0 ∧ WkB W2 wx g6 a6 s1 g1 es6 q1)
    case first =>
        have hKP := hid (show ∀ W' : World, Below W2.heap.size W2 W' → (fun W' : World => W'.cell? ⟨w1.heap.size, 0, none⟩ = some (.int .i64 (nSt 2).1) ∧ W'.cell? ⟨w1.heap.size, 1, none⟩ = some (.slice a.A a.n a.k) ∧ W'.cell? ⟨w1.heap.size, 2, none⟩ = some (.slice a.B a.m a.d) ∧ W'.cell? ⟨w1.heap.size, 3, none⟩ = some (.int .i64 (nGr 2).dn) ∧ W'.cell? ⟨w1.heap.size, 4, none⟩ = some (.int .i64 (nGr 2).ak) ∧ W'.cell? ⟨w1.heap.size, 5, none⟩ = some (.bool (nGr 2).on) ∧ W'.cell? ⟨w1.heap.size, 6, none⟩ = some (.slice a.D (nGr 2).nd.length a.kd) ∧ W'.cell? ⟨w1.heap.size, 7, none⟩ = some (.slice a.Q a.nq a.kq)) W' from fun W' hb => ⟨(XP.out.step hb).cells8.1, (XP.out.step hb).cells8.2.1, (XP.out.step hb).cells8.2.2.1, (XP.out.step hb).cells8.2.2.2.1, (XP.out.step hb).cells8.2.2.2.2.1, (XP.out.step hb).cells8.2.2.2.2.2.1, (XP.out.step hb).cells8.2.2.2.2.2.2.1, (XP.out.step hb).cells8.2.2.2.2.2.2.2.1⟩)
        refine' merge_by (fun K0 => ?_) ?_
        rotate_left
        refine' merge_by (fun K1 => ?_) ?_
        rotate_left
        refine' merge_by (fun K2 => ?_) ?_
        rotate_left
        refine' merge_by (fun K3 => ?_) ?_
        rotate_left
        refine' merge_by (fun K4 => ?_) ?_
        rotate_left
        refine' merge_by (fun K5 => ?_) ?_
        rotate_left
        refine' merge_by (fun K6 => ?_) ?_
        rotate_left
        ·skip
         have bx := (Below.refl W2.heap.size W2).drew
         replace HQ := hid (below_then HQ.out bx)
         clear bx
         refine wp_region_noPanic ?_
         refine wp_region_held_drew (S := (fun W' : World => W'.cell? ⟨w1.heap.size, 0, none⟩ = some (.int .i64 (nSt 2).1) ∧ W'.cell? ⟨w1.heap.size, 1, none⟩ = some (.slice a.A a.n a.k) ∧ W'.cell? ⟨w1.heap.size, 2, none⟩ = some (.slice a.B a.m a.d) ∧ W'.cell? ⟨w1.heap.size, 3, none⟩ = some (.int .i64 (nGr 2).dn) ∧ W'.cell? ⟨w1.heap.size, 4, none⟩ = some (.int .i64 (nGr 2).ak) ∧ W'.cell? ⟨w1.heap.size, 5, none⟩ = some (.bool (nGr 2).on) ∧ W'.cell? ⟨w1.heap.size, 6, none⟩ = some (.slice a.D (nGr 2).nd.length a.kd) ∧ W'.cell? ⟨w1.heap.size, 7, none⟩ = some (.slice a.Q a.nq a.kq))) (by kernel_rfl) (hKP.out _ HQ.out) (fun hS => ?_)
         generalize W2.drew = Wd at *
         refine tk 0 hS ?_
         refine rdy [1, 12] (csy (fun K hK => ?_) (csy (fun K hK => ?_) AllReadyH.nil))
         ·skip
          have hpre := hid (show W2.heap.size ≤ Wd.heap.size from HQ.out.size)
          go_simp
          refine (op_any 1 1 0 _).mono ?_
          rintro e wp1 ⟨rfl, hb⟩
          replace HQ := hid (below_then HQ.out hb)
          clear hb
          go_wp2_with fail
          clear hpre
          clear hS
          refine ky hK (hKP.out _ HQ.out) fun hS => ?_
          clear hK K
          refine rdy [2, 12] (csy (fun K hK => ?_) (csy (fun K hK => ?_) AllReadyH.nil))
          ·skip
           have hpre := hid (show W2.heap.size ≤ wp1.heap.size from HQ.out.size)
           go_simp
           refine (op_any 3 0 7 _).mono ?_
           rintro e wp2 ⟨rfl, hb⟩
           replace HQ := hid (below_then HQ.out hb)
           clear hb
           go_wp2_with fail
           clear hpre
           clear hS
           refine ky hK (hKP.out _ HQ.out) fun hS => ?_
           clear hK K
           refine rdy [3, 12] (csy (fun K hK => ?_) (csy (fun K hK => ?_) AllReadyH.nil))
           ·skip
            have hpre := hid (show W2.heap.size ≤ wp2.heap.size from HQ.out.size)
            go_simp
            refine (op_any 4 0 0 _).mono ?_
            rintro e wp3 ⟨rfl, hb⟩
            replace HQ := hid (below_then HQ.out hb)
            clear hb
            go_wp2_with fail
            clear hpre
            clear hS
            refine ky hK (hKP.out _ HQ.out) fun hS => ?_
            clear hK K
            refine rdy [4, 12] (csy (fun K hK => ?_) (csy (fun K hK => ?_) AllReadyH.nil))
            ·skip
             have hpre := hid (show W2.heap.size ≤ wp3.heap.size from HQ.out.size)
             go_simp
             refine (op_any 4 0 0 _).mono ?_
             rintro e wp4 ⟨rfl, hb⟩
             replace HQ := hid (below_then HQ.out hb)
             clear hb
             go_wp2_with fail
             clear hpre
             clear hS
             refine ky hK (hKP.out _ HQ.out) fun hS => ?_
             clear hK K
             refine rdy [5, 12] (csy (fun K hK => ?_) (csy (fun K hK => ?_) AllReadyH.nil))
             ·skip
              have hpre := hid (show W2.heap.size ≤ wp4.heap.size from HQ.out.size)
              go_simp
              refine (op_any 4 1 0 _).mono ?_
              rintro e wp5 ⟨rfl, hb⟩
              replace HQ := hid (below_then HQ.out hb)
              clear hb
              go_wp2_with fail
              clear hpre
              clear hS
              refine ky hK (hKP.out _ HQ.out) fun hS => ?_
              clear hK K
              refine rdy [6, 12] (csy (fun K hK => ?_) (csy (fun K hK => ?_) AllReadyH.nil))
              ·skip
               have hpre := hid (show W2.heap.size ≤ wp5.heap.size from HQ.out.size)
               go_simp
               refine named_alloc ?_
               intro Wa6 hbk hb hsz
               replace HQ := hid (below_then HQ.out hb)
               obtain ⟨ga6, hga⟩ : ∃ g, g = wp5.heap.size := ⟨_, rfl⟩
               rw [← hga] at hbk ⊢
               have hlo6 := hid (show W2.heap.size ≤ ga6 by have := hpre.out; omega)
               have PT := hid hbk
               clear hb hbk hsz hga hpre
               clear hS
               refine ky hK (hKP.out _ HQ.out) fun hS => ?_
               clear hK K
               refine rdy [7, 12] (csy (fun K hK => ?_) (csy (fun K hK => ?_) AllReadyH.nil))
               ·skip
                have hpre := hid (show W2.heap.size ≤ Wa6.heap.size from HQ.out.size)
                have hpl6 := hid PT.out.lt
                go_simp
                refine (wk_run (L := T2) (some ⟨_, 0, none⟩) 5 5 _ (XR.out.step HQ.out) HQ1.out (PT.out.smO (xs := T2) rfl (by intro k hk j hj; have hk' : k < 5 := hk; have hj' : j < 3 := hj; match k, hk', j, hj' with | 0, _, 0, _ => rfl | 0, _, 1, _ => rfl | 0, _, 2, _ => rfl | 1, _, 0, _ => rfl | 1, _, 1, _ => rfl | 1, _, 2, _ => rfl | 2, _, 0, _ => rfl | 2, _, 1, _ => rfl | 2, _, 2, _ => rfl | 3, _, 0, _ => rfl | 3, _, 1, _ => rfl | 3, _, 2, _ => rfl | 4, _, 0, _ => rfl | 4, _, 1, _ => rfl | 4, _, 2, _ => rfl)) (by omega) G2.out).mono ?_
                rintro e wpl ⟨a9, es9, R9, kr9, rfl, hq9, hr9, ho9, hb⟩
                replace PT := hid (PT.out.step hb); replace HQ := hid (below_then HQ.out hb)
                clear hb
                have RO := hid (ho9.mono (show W2.heap.size ≤ _ by have := HQ.out.size; have := hpre.out; have := hpl6.out; have := hlo6.out; have := PT.out.lt; omega))
                have RQ := hid hq9
                have RS := hid hr9.rcr
                clear hr9 ho9 hq9
                go_wp2_with fail
                clear hpre hpl6
                clear hS
                refine ky hK (hKP.out _ HQ.out) fun hS => ?_
                clear hK K
                refine tk 8 hS ?_
                refine tk 9 hS ?_
                refine tk 10 hS ?_
                refine tk 11 hS ?_
                refine rdy [12] (csy (fun K hK => ?_) AllReadyH.nil)
                have hpre := hid (show W2.heap.size ≤ wpl.heap.size from HQ.out.size)
                go_simp
                refine named_alloc ?_
                intro Wa12 hbk hb hsz
                have RT := hid ((RS.out.above.mono (q := fun i => i = wpl.heap.size) (fun i hi => by subst hi; exact Nat.le_refl _)).step hb)
                replace PT := hid (PT.out.step hb); replace RS := hid (RS.out.step hb); replace RO := hid (RO.out.step hb); replace HQ := hid (below_then HQ.out hb)
                obtain ⟨ga12, hga⟩ : ∃ g, g = wpl.heap.size := ⟨_, rfl⟩
                rw [← hga] at hbk ⊢
                rw [← hga] at RT
                have hlo12 := hid (show W2.heap.size ≤ ga12 by have := hpre.out; omega)
                have ZR := hid hbk
                clear hb hbk hsz hga hpre
                clear hS
                refine ky hK (hKP.out _ HQ.out) fun hS => ?_
                clear hK K
                revert hS; revert hlo12; revert hlo6; revert RT; revert RQ; revert HQ; revert ZR; revert RS; revert RO; revert PT; revert ga12; revert kr9; revert R9; revert es9; revert a9; revert ga6; revert Wa12
                exact K0.out
               ·skip
                have hpre := hid (show W2.heap.size ≤ Wa6.heap.size from HQ.out.size)
                go_simp
                refine named_alloc ?_
                intro Wa12 hbk hb hsz
                skip
                replace PT := hid (PT.out.step hb); replace HQ := hid (below_then HQ.out hb)
                obtain ⟨ga12, hga⟩ : ∃ g, g = Wa6.heap.size := ⟨_, rfl⟩
                rw [← hga] at hbk ⊢
                have hlo12 := hid (show W2.heap.size ≤ ga12 by have := hpre.out; omega)
                have ZR := hid hbk
                clear hb hbk hsz hga hpre
                clear hS
                refine ky hK (hKP.out _ HQ.out) fun hS => ?_
                clear hK K
                revert hS; revert hlo12; revert hlo6; revert HQ; revert ZR; revert PT; revert ga12; revert ga6; revert Wa12
                exact K1.out
              ·skip
               have hpre := hid (show W2.heap.size ≤ wp5.heap.size from HQ.out.size)
               go_simp
               refine named_alloc ?_
               intro Wa12 hbk hb hsz
               skip
               replace HQ := hid (below_then HQ.out hb)
               obtain ⟨ga12, hga⟩ : ∃ g, g = wp5.heap.size := ⟨_, rfl⟩
               rw [← hga] at hbk ⊢
               have hlo12 := hid (show W2.heap.size ≤ ga12 by have := hpre.out; omega)
               have ZR := hid hbk
               clear hb hbk hsz hga hpre
               clear hS
               refine ky hK (hKP.out _ HQ.out) fun hS => ?_
               clear hK K
               revert hS; revert hlo12; revert HQ; revert ZR; revert ga12; revert Wa12
               exact K2.out
             ·skip
              have hpre := hid (show W2.heap.size ≤ wp4.heap.size from HQ.out.size)
              go_simp
              refine named_alloc ?_
              intro Wa12 hbk hb hsz
              skip
              replace HQ := hid (below_then HQ.out hb)
              obtain ⟨ga12, hga⟩ : ∃ g, g = wp4.heap.size := ⟨_, rfl⟩
              rw [← hga] at hbk ⊢
              have hlo12 := hid (show W2.heap.size ≤ ga12 by have := hpre.out; omega)
              have ZR := hid hbk
              clear hb hbk hsz hga hpre
              clear hS
              refine ky hK (hKP.out _ HQ.out) fun hS => ?_
              clear hK K
              revert hS; revert hlo12; revert HQ; revert ZR; revert ga12; revert Wa12
              exact K3.out
            ·skip
             have hpre := hid (show W2.heap.size ≤ wp3.heap.size from HQ.out.size)
             go_simp
             refine named_alloc ?_
             intro Wa12 hbk hb hsz
             skip
             replace HQ := hid (below_then HQ.out hb)
             obtain ⟨ga12, hga⟩ : ∃ g, g = wp3.heap.size := ⟨_, rfl⟩
             rw [← hga] at hbk ⊢
             have hlo12 := hid (show W2.heap.size ≤ ga12 by have := hpre.out; omega)
             have ZR := hid hbk
             clear hb hbk hsz hga hpre
             clear hS
             refine ky hK (hKP.out _ HQ.out) fun hS => ?_
             clear hK K
             revert hS; revert hlo12; revert HQ; revert ZR; revert ga12; revert Wa12
             exact K4.out
           ·skip
            have hpre := hid (show W2.heap.size ≤ wp2.heap.size from HQ.out.size)
            go_simp
            refine named_alloc ?_
            intro Wa12 hbk hb hsz
            skip
            replace HQ := hid (below_then HQ.out hb)
            obtain ⟨ga12, hga⟩ : ∃ g, g = wp2.heap.size := ⟨_, rfl⟩
            rw [← hga] at hbk ⊢
            have hlo12 := hid (show W2.heap.size ≤ ga12 by have := hpre.out; omega)
            have ZR := hid hbk
            clear hb hbk hsz hga hpre
            clear hS
            refine ky hK (hKP.out _ HQ.out) fun hS => ?_
            clear hK K
            revert hS; revert hlo12; revert HQ; revert ZR; revert ga12; revert Wa12
            exact K5.out
          ·skip
           have hpre := hid (show W2.heap.size ≤ wp1.heap.size from HQ.out.size)
           go_simp
           refine named_alloc ?_
           intro Wa12 hbk hb hsz
           skip
           replace HQ := hid (below_then HQ.out hb)
           obtain ⟨ga12, hga⟩ : ∃ g, g = wp1.heap.size := ⟨_, rfl⟩
           rw [← hga] at hbk ⊢
           have hlo12 := hid (show W2.heap.size ≤ ga12 by have := hpre.out; omega)
           have ZR := hid hbk
           clear hb hbk hsz hga hpre
           clear hS
           refine ky hK (hKP.out _ HQ.out) fun hS => ?_
           clear hK K
           revert hS; revert hlo12; revert HQ; revert ZR; revert ga12; revert Wa12
           exact K6.out
         ·skip
          have hpre := hid (show W2.heap.size ≤ Wd.heap.size from HQ.out.size)
          go_simp
          refine named_alloc ?_
          intro Wa12 hbk hb hsz
          skip
          replace HQ := hid (below_then HQ.out hb)
          obtain ⟨ga12, hga⟩ : ∃ g, g = Wd.heap.size := ⟨_, rfl⟩
          rw [← hga] at hbk ⊢
          have hlo12 := hid (show W2.heap.size ≤ ga12 by have := hpre.out; omega)
          have ZR := hid hbk
          clear hb hbk hsz hga hpre
          clear hS
          refine ky hK (hKP.out _ HQ.out) fun hS => ?_
          clear hK K
          refine rdy [1] (csy (fun K hK => ?_) AllReadyH.nil)
          have hpre := hid (show W2.heap.size ≤ Wa12.heap.size from HQ.out.size)
          have hpl12 := hid ZR.out.lt
          go_simp
          refine (op_any 1 1 0 _).mono ?_
          rintro e wp1 ⟨rfl, hb⟩
          replace ZR := hid (ZR.out.step hb); replace HQ := hid (below_then HQ.out hb)
          clear hb
          go_wp2_with fail
          clear hpre hpl12
          clear hS
          refine ky hK (hKP.out _ HQ.out) fun hS => ?_
          clear hK K
          revert hS; revert hlo12; revert HQ; revert ZR; revert ga12; revert wp1
          exact K6.out
        ·skip
         intro Wm ga12 ZR HQ hlo12 hS
         refine rdy [2] (csy (fun K hK => ?_) AllReadyH.nil)
         have hpre := hid (show W2.heap.size ≤ Wm.heap.size from HQ.out.size)
         have hpl12 := hid ZR.out.lt
         go_simp
         refine (op_any 3 0 7 _).mono ?_
         rintro e wp2 ⟨rfl, hb⟩
         replace ZR := hid (ZR.out.step hb); replace HQ := hid (below_then HQ.out hb)
         clear hb
         go_wp2_with fail
         clear hpre hpl12
         clear hS
         refine ky hK (hKP.out _ HQ.out) fun hS => ?_
         clear hK K
         revert hS; revert hlo12; revert HQ; revert ZR; revert ga12; revert wp2
         exact K5.out
        ·skip
         intro Wm ga12 ZR HQ hlo12 hS
         refine rdy [3] (csy (fun K hK => ?_) AllReadyH.nil)
         have hpre := hid (show W2.heap.size ≤ Wm.heap.size from HQ.out.size)
         have hpl12 := hid ZR.out.lt
         go_simp
         refine (op_any 4 0 0 _).mono ?_
         rintro e wp3 ⟨rfl, hb⟩
         replace ZR := hid (ZR.out.step hb); replace HQ := hid (below_then HQ.out hb)
         clear hb
         go_wp2_with fail
         clear hpre hpl12
         clear hS
         refine ky hK (hKP.out _ HQ.out) fun hS => ?_
         clear hK K
         revert hS; revert hlo12; revert HQ; revert ZR; revert ga12; revert wp3
         exact K4.out
        ·skip
         intro Wm ga12 ZR HQ hlo12 hS
         refine rdy [4] (csy (fun K hK => ?_) AllReadyH.nil)
         have hpre := hid (show W2.heap.size ≤ Wm.heap.size from HQ.out.size)
         have hpl12 := hid ZR.out.lt
         go_simp
         refine (op_any 4 0 0 _).mono ?_
         rintro e wp4 ⟨rfl, hb⟩
         replace ZR := hid (ZR.out.step hb); replace HQ := hid (below_then HQ.out hb)
         clear hb
         go_wp2_with fail
         clear hpre hpl12
         clear hS
         refine ky hK (hKP.out _ HQ.out) fun hS => ?_
         clear hK K
         revert hS; revert hlo12; revert HQ; revert ZR; revert ga12; revert wp4
         exact K3.out
        ·skip
         intro Wm ga12 ZR HQ hlo12 hS
         refine rdy [5] (csy (fun K hK => ?_) AllReadyH.nil)
         have hpre := hid (show W2.heap.size ≤ Wm.heap.size from HQ.out.size)
         have hpl12 := hid ZR.out.lt
         go_simp
         refine (op_any 4 1 0 _).mono ?_
         rintro e wp5 ⟨rfl, hb⟩
         replace ZR := hid (ZR.out.step hb); replace HQ := hid (below_then HQ.out hb)
         clear hb
         go_wp2_with fail
         clear hpre hpl12
         clear hS
         refine ky hK (hKP.out _ HQ.out) fun hS => ?_
         clear hK K
         revert hS; revert hlo12; revert HQ; revert ZR; revert ga12; revert wp5
         exact K2.out
        ·skip
         intro Wm ga12 ZR HQ hlo12 hS
         refine rdy [6] (csy (fun K hK => ?_) AllReadyH.nil)
         have hpre := hid (show W2.heap.size ≤ Wm.heap.size from HQ.out.size)
         go_simp
         refine named_alloc ?_
         intro Wa6 hbk hb hsz
         replace ZR := hid (ZR.out.step hb); replace HQ := hid (below_then HQ.out hb)
         obtain ⟨ga6, hga⟩ : ∃ g, g = Wm.heap.size := ⟨_, rfl⟩
         rw [← hga] at hbk ⊢
         have hlo6 := hid (show W2.heap.size ≤ ga6 by have := hpre.out; omega)
         have PT := hid hbk
         clear hb hbk hsz hga hpre
         clear hS
         refine ky hK (hKP.out _ HQ.out) fun hS => ?_
         clear hK K
         revert hS; revert hlo12; revert hlo6; revert HQ; revert ZR; revert PT; revert ga12; revert ga6; revert Wa6
         exact K1.out
        ·skip
         intro Wm ga6 ga12 PT ZR HQ hlo6 hlo12 hS
         refine rdy [7] (csy (fun K hK => ?_) AllReadyH.nil)
         have hpre := hid (show W2.heap.size ≤ Wm.heap.size from HQ.out.size)
         have hpl6 := hid PT.out.lt
         have hpl12 := hid ZR.out.lt
         go_simp
         refine (wk_run (L := T2) (some ⟨_, 0, none⟩) 5 5 _ (XR.out.step HQ.out) HQ1.out (PT.out.smO (xs := T2) rfl (by intro k hk j hj; have hk' : k < 5 := hk; have hj' : j < 3 := hj; match k, hk', j, hj' with | 0, _, 0, _ => rfl | 0, _, 1, _ => rfl | 0, _, 2, _ => rfl | 1, _, 0, _ => rfl | 1, _, 1, _ => rfl | 1, _, 2, _ => rfl | 2, _, 0, _ => rfl | 2, _, 1, _ => rfl | 2, _, 2, _ => rfl | 3, _, 0, _ => rfl | 3, _, 1, _ => rfl | 3, _, 2, _ => rfl | 4, _, 0, _ => rfl | 4, _, 1, _ => rfl | 4, _, 2, _ => rfl)) (by omega) G2.out).mono ?_
         rintro e wpl ⟨a9, es9, R9, kr9, rfl, hq9, hr9, ho9, hb⟩
         replace PT := hid (PT.out.step hb); replace ZR := hid (ZR.out.step hb); replace HQ := hid (below_then HQ.out hb)
         clear hb
         have RO := hid (ho9.mono (show W2.heap.size ≤ _ by have := HQ.out.size; have := hpre.out; have := hpl6.out; have := hpl12.out; have := hlo6.out; have := PT.out.lt; have := hlo12.out; have := ZR.out.lt; omega))
         have RQ := hid hq9
         have RS := hid hr9.rcr
         have RT := hid (hr9.mono (q := fun i => i = ga12) (fun i hi => by subst hi; exact hpl12.out))
         clear hr9 ho9 hq9
         go_wp2_with fail
         clear hpre hpl6 hpl12
         clear hS
         refine ky hK (hKP.out _ HQ.out) fun hS => ?_
         clear hK K
         refine tk 8 hS ?_
         refine tk 9 hS ?_
         refine tk 10 hS ?_
         refine tk 11 hS ?_
         revert hS; revert hlo12; revert hlo6; revert RT; revert RQ; revert HQ; revert ZR; revert RS; revert RO; revert PT; revert ga12; revert kr9; revert R9; revert es9; revert a9; revert ga6; revert wpl
         exact K0.out
        ·skip
         intro Wm ga6 a9 es9 R9 kr9 ga12 PT RO RS ZR HQ RQ RT hlo6 hlo12 hS
         refine rdy [13] (csy (fun K hK => ?_) AllReadyH.nil)
         have hpre := hid (show W2.heap.size ≤ Wm.heap.size from HQ.out.size)
         obtain ⟨y00, y01, y02, y03, y04, y05, y06, y07, yf0⟩ := ZR.out.cells8
         go_simp
         clear y00 y01 y02 y03 y04 y05 y06 y07 yf0
         refine named_store_8_8_0 ZR.out ?_
         intro Ws13 hbk hgr hsz
         clear hsz
         replace RO := hid (RO.out.keptR ZR.out (by decide) hgr)
         replace HQ := hid (HQ.out.grown hgr HQ.out.size (fun r e => by cases e; have := HQ.out.size; have := hlo6.out; have := PT.out.lt; have := hlo12.out; have := ZR.out.lt; omega))
         replace RS := hid (RT.out.turn hgr rfl).rcr
         clear RT
         replace ZR := hid hbk
         clear hbk hgr hpre
         clear hS
         refine ky hK (hKP.out _ HQ.out) fun hS => ?_
         clear hK K
         refine tk 14 hS ?_
         refine tk 15 hS ?_
         refine wpAnyH_done (by kernel_rfl) ?_ _
         refine NoPanic.normal ?_
         clear hS
         go_wp2_with fail
         go_meet
         exact ⟨_, _, _, rfl, rfl, ZR.out, RS.out, RQ.out, HQ.out, hlo12.out⟩
    case rest =>
      obtain ⟨g6, a6, es6, rfl, rfl, h1, h2, h3, h4, h5⟩ := hcut
      rename World => W3
      have P6 := hid h1; have S6 := hid h2
      replace HB := hid (below_then HB.out h4); replace XP := hid (XP.out.step h4); replace XR := hid (XR.out.step h4); replace EL := hid (EL.out.step h4)
      have HK6 := hid (show RcGood s1 g1 (ql es6) by rw [h3]; exact HG1.out)
      have G4 := hid (show (opsA s1 g1 (ql es6) [] [(5, 0, 0)]).1 = 4 by rw [h3]; exact F4.out)
      have G5 := hid (show opsA s1 g1 (ql es6) [] T3 = (0, s3, g3, q3, [7]) by rw [h3]; exact F5.out)
      have N6 := hid (show wN (ql es6) = 1 by rw [h3]; exact F3.out)
      clear h1 h2 h3 h4 h5 HQ F3 F4 F5 HG1 G1 G2
      have HQ := hid (Below.refl W3.heap.size W3)
      go_upto_region 4 with fail
      go_cut [9, 10, 11] (fun s9 s10 s11 wx => s11 = .int .i64 4 ∧ Below W3.heap.size W3 wx)
      case first =>
          have hKP := hid (show ∀ W' : World, Below W3.heap.size W3 W' → (fun W' : World => W'.cell? ⟨g6, 0, none⟩ = some (.int .i64 s1.1) ∧ W'.cell? ⟨g6, 1, none⟩ = some (.slice a6.A a6.n a6.k) ∧ W'.cell? ⟨g6, 2, none⟩ = some (.slice a6.B a6.m a6.d) ∧ W'.cell? ⟨g6, 3, none⟩ = some (.int .i64 g1.dn) ∧ W'.cell? ⟨g6, 4, none⟩ = some (.int .i64 g1.ak) ∧ W'.cell? ⟨g6, 5, none⟩ = some (.bool g1.on) ∧ W'.cell? ⟨g6, 6, none⟩ = some (.slice a6.D g1.nd.length a6.kd) ∧ W'.cell? ⟨g6, 7, none⟩ = some (.slice a6.Q a6.nq a6.kq)) W' from fun W' hb => ⟨(P6.out.step hb).cells8.1, (P6.out.step hb).cells8.2.1, (P6.out.step hb).cells8.2.2.1, (P6.out.step hb).cells8.2.2.2.1, (P6.out.step hb).cells8.2.2.2.2.1, (P6.out.step hb).cells8.2.2.2.2.2.1, (P6.out.step hb).cells8.2.2.2.2.2.2.1, (P6.out.step hb).cells8.2.2.2.2.2.2.2.1⟩)
          refine' merge_by (fun K0 => ?_) ?_
          rotate_left
          refine' merge_by (fun K1 => ?_) ?_
          rotate_left
          ·skip
           have bx := (Below.refl W3.heap.size W3).drew
           replace HQ := hid (below_then HQ.out bx)
           clear bx
           refine wp_region_noPanic ?_
           refine wp_region_held_drew (S := (fun W' : World => W'.cell? ⟨g6, 0, none⟩ = some (.int .i64 s1.1) ∧ W'.cell? ⟨g6, 1, none⟩ = some (.slice a6.A a6.n a6.k) ∧ W'.cell? ⟨g6, 2, none⟩ = some (.slice a6.B a6.m a6.d) ∧ W'.cell? ⟨g6, 3, none⟩ = some (.int .i64 g1.dn) ∧ W'.cell? ⟨g6, 4, none⟩ = some (.int .i64 g1.ak) ∧ W'.cell? ⟨g6, 5, none⟩ = some (.bool g1.on) ∧ W'.cell? ⟨g6, 6, none⟩ = some (.slice a6.D g1.nd.length a6.kd) ∧ W'.cell? ⟨g6, 7, none⟩ = some (.slice a6.Q a6.nq a6.kq))) (by kernel_rfl) (hKP.out _ HQ.out) (fun hS => ?_)
           generalize W3.drew = Wd at *
           refine tk 0 hS ?_
           refine rdy [1, 7] (csy (fun K hK => ?_) (csy (fun K hK => ?_) AllReadyH.nil))
           ·skip
            have hpre := hid (show W3.heap.size ≤ Wd.heap.size from HQ.out.size)
            go_simp
            refine (op_any 5 0 0 _).mono ?_
            rintro e wp1 ⟨rfl, hb⟩
            replace HQ := hid (below_then HQ.out hb)
            clear hb
            go_wp2_with fail
            clear hpre
            clear hS
            refine ky hK (hKP.out _ HQ.out) fun hS => ?_
            clear hK K
            refine rdy [2, 7] (csy (fun K hK => ?_) (csy (fun K hK => ?_) AllReadyH.nil))
            ·skip
             have hpre := hid (show W3.heap.size ≤ wp1.heap.size from HQ.out.size)
             go_simp
             refine (wk_no (o := (5, 0, 0)) _ (S6.out.step HQ.out) HK6.out G4.out (by decide)).mono ?_
             rintro e wp2 ⟨⟨a9, rfl⟩, hb⟩
             replace HQ := hid (below_then HQ.out hb)
             clear hb
             go_wp2_with fail
             clear hpre
             clear hS
             refine ky hK (hKP.out _ HQ.out) fun hS => ?_
             clear hK K
             refine tk 3 hS ?_
             refine tk 4 hS ?_
             refine tk 5 hS ?_
             refine tk 6 hS ?_
             refine rdy [7] (csy (fun K hK => ?_) AllReadyH.nil)
             have hpre := hid (show W3.heap.size ≤ wp2.heap.size from HQ.out.size)
             go_simp
             refine named_alloc ?_
             intro Wa7 hbk hb hsz
             replace HQ := hid (below_then HQ.out hb)
             obtain ⟨ga7, hga⟩ : ∃ g, g = wp2.heap.size := ⟨_, rfl⟩
             rw [← hga] at hbk ⊢
             have hlo7 := hid (show W3.heap.size ≤ ga7 by have := hpre.out; omega)
             have ZR := hid hbk
             clear hb hbk hsz hga hpre
             clear hS
             refine ky hK (hKP.out _ HQ.out) fun hS => ?_
             clear hK K
             revert hS; revert hlo7; revert HQ; revert ZR; revert ga7; revert a9; revert Wa7
             exact K0.out
            ·skip
             have hpre := hid (show W3.heap.size ≤ wp1.heap.size from HQ.out.size)
             go_simp
             refine named_alloc ?_
             intro Wa7 hbk hb hsz
             replace HQ := hid (below_then HQ.out hb)
             obtain ⟨ga7, hga⟩ : ∃ g, g = wp1.heap.size := ⟨_, rfl⟩
             rw [← hga] at hbk ⊢
             have hlo7 := hid (show W3.heap.size ≤ ga7 by have := hpre.out; omega)
             have ZR := hid hbk
             clear hb hbk hsz hga hpre
             clear hS
             refine ky hK (hKP.out _ HQ.out) fun hS => ?_
             clear hK K
             revert hS; revert hlo7; revert HQ; revert ZR; revert ga7; revert Wa7
             exact K1.out
           ·skip
            have hpre := hid (show W3.heap.size ≤ Wd.heap.size from HQ.out.size)
            go_simp
            refine named_alloc ?_
            intro Wa7 hbk hb hsz
            replace HQ := hid (below_then HQ.out hb)
            obtain ⟨ga7, hga⟩ : ∃ g, g = Wd.heap.size := ⟨_, rfl⟩
            rw [← hga] at hbk ⊢
            have hlo7 := hid (show W3.heap.size ≤ ga7 by have := hpre.out; omega)
            have ZR := hid hbk
            clear hb hbk hsz hga hpre
            clear hS
            refine ky hK (hKP.out _ HQ.out) fun hS => ?_
            clear hK K
            refine rdy [1] (csy (fun K hK => ?_) AllReadyH.nil)
            have hpre := hid (show W3.heap.size ≤ Wa7.heap.size from HQ.out.size)
            have hpl7 := hid ZR.out.lt
            go_simp
            refine (op_any 5 0 0 _).mono ?_
            rintro e wp1 ⟨rfl, hb⟩
            replace ZR := hid (ZR.out.step hb); replace HQ := hid (below_then HQ.out hb)
            clear hb
            go_wp2_with fail
            clear hpre hpl7
            clear hS
            refine ky hK (hKP.out _ HQ.out) fun hS => ?_
            clear hK K
            revert hS; revert hlo7; revert HQ; revert ZR; revert ga7; revert wp1
            exact K1.out
          ·skip
           intro Wm ga7 ZR HQ hlo7 hS
           refine rdy [2] (csy (fun K hK => ?_) AllReadyH.nil)
           have hpre := hid (show W3.heap.size ≤ Wm.heap.size from HQ.out.size)
           have hpl7 := hid ZR.out.lt
           go_simp
           refine (wk_no (o := (5, 0, 0)) _ (S6.out.step HQ.out) HK6.out G4.out (by decide)).mono ?_
           rintro e wp2 ⟨⟨a9, rfl⟩, hb⟩
           replace ZR := hid (ZR.out.step hb); replace HQ := hid (below_then HQ.out hb)
           clear hb
           go_wp2_with fail
           clear hpre hpl7
           clear hS
           refine ky hK (hKP.out _ HQ.out) fun hS => ?_
           clear hK K
           refine tk 3 hS ?_
           refine tk 4 hS ?_
           refine tk 5 hS ?_
           refine tk 6 hS ?_
           revert hS; revert hlo7; revert HQ; revert ZR; revert ga7; revert a9; revert wp2
           exact K0.out
          ·skip
           intro Wm a9 ga7 ZR HQ hlo7 hS
           refine rdy [8] (csy (fun K hK => ?_) AllReadyH.nil)
           have hpre := hid (show W3.heap.size ≤ Wm.heap.size from HQ.out.size)
           obtain ⟨y00, y01, y02, y03, y04, y05, y06, y07, yf0⟩ := ZR.out.cells8
           go_simp
           clear y00 y01 y02 y03 y04 y05 y06 y07 yf0
           refine named_store_8_8_0 ZR.out ?_
           intro Ws8 hbk hgr hsz
           clear hsz
           replace HQ := hid (HQ.out.grown hgr HQ.out.size (fun r e => by cases e; have := HQ.out.size; have := hlo7.out; have := ZR.out.lt; omega))
           replace ZR := hid hbk
           clear hbk hgr hpre
           clear hS
           refine ky hK (hKP.out _ HQ.out) fun hS => ?_
           clear hK K
           refine tk 9 hS ?_
           refine tk 10 hS ?_
           refine wpAnyH_done (by kernel_rfl) ?_ _
           refine NoPanic.normal ?_
           clear hS
           go_wp2_with fail
           go_meet
           exact ⟨rfl, HQ.out⟩
      case rest =>
        obtain ⟨rfl, h4⟩ := hcut
        rename World => W4
        replace HB := hid (below_then HB.out h4); replace XP := hid (XP.out.step h4); replace XR := hid (XR.out.step h4); replace EL := hid (EL.out.step h4); replace P6 := hid (P6.out.step h4); replace S6 := hid (S6.out.step h4)
        clear h4 HQ
        have HQ := hid (Below.refl W4.heap.size W4)
        go_upto_region 5 with fail
        go_cut [12, 13, 14] (fun s12 s13 s14 wx => ∃ E ke, s13 = .slice E 1 ke ∧ s14 = .int .i64 0 ∧ WkS W4 wx E ke [7])
        case first =>
            have hKP := hid (show ∀ W' : World, Below W4.heap.size W4 W' → (fun W' : World => W'.cell? ⟨g6, 0, none⟩ = some (.int .i64 s1.1) ∧ W'.cell? ⟨g6, 1, none⟩ = some (.slice a6.A a6.n a6.k) ∧ W'.cell? ⟨g6, 2, none⟩ = some (.slice a6.B a6.m a6.d) ∧ W'.cell? ⟨g6, 3, none⟩ = some (.int .i64 g1.dn) ∧ W'.cell? ⟨g6, 4, none⟩ = some (.int .i64 g1.ak) ∧ W'.cell? ⟨g6, 5, none⟩ = some (.bool g1.on) ∧ W'.cell? ⟨g6, 6, none⟩ = some (.slice a6.D g1.nd.length a6.kd) ∧ W'.cell? ⟨g6, 7, none⟩ = some (.slice a6.Q a6.nq a6.kq)) W' from fun W' hb => ⟨(P6.out.step hb).cells8.1, (P6.out.step hb).cells8.2.1, (P6.out.step hb).cells8.2.2.1, (P6.out.step hb).cells8.2.2.2.1, (P6.out.step hb).cells8.2.2.2.2.1, (P6.out.step hb).cells8.2.2.2.2.2.1, (P6.out.step hb).cells8.2.2.2.2.2.2.1, (P6.out.step hb).cells8.2.2.2.2.2.2.2.1⟩)
            refine' merge_by (fun K0 => ?_) ?_
            rotate_left
            refine' merge_by (fun K1 => ?_) ?_
            rotate_left
            refine' merge_by (fun K2 => ?_) ?_
            rotate_left
            refine' merge_by (fun K3 => ?_) ?_
            rotate_left
            refine' merge_by (fun K4 => ?_) ?_
            rotate_left
            ·skip
             have bx := (Below.refl W4.heap.size W4).drew
             replace HQ := hid (below_then HQ.out bx)
             clear bx
             refine wp_region_noPanic ?_
             refine wp_region_held_drew (S := (fun W' : World => W'.cell? ⟨g6, 0, none⟩ = some (.int .i64 s1.1) ∧ W'.cell? ⟨g6, 1, none⟩ = some (.slice a6.A a6.n a6.k) ∧ W'.cell? ⟨g6, 2, none⟩ = some (.slice a6.B a6.m a6.d) ∧ W'.cell? ⟨g6, 3, none⟩ = some (.int .i64 g1.dn) ∧ W'.cell? ⟨g6, 4, none⟩ = some (.int .i64 g1.ak) ∧ W'.cell? ⟨g6, 5, none⟩ = some (.bool g1.on) ∧ W'.cell? ⟨g6, 6, none⟩ = some (.slice a6.D g1.nd.length a6.kd) ∧ W'.cell? ⟨g6, 7, none⟩ = some (.slice a6.Q a6.nq a6.kq))) (by kernel_rfl) (hKP.out _ HQ.out) (fun hS => ?_)
             generalize W4.drew = Wd at *
             refine tk 0 hS ?_
             refine rdy [1, 10] (csy (fun K hK => ?_) (csy (fun K hK => ?_) AllReadyH.nil))
             ·skip
              have hpre := hid (show W4.heap.size ≤ Wd.heap.size from HQ.out.size)
              go_simp
              refine (op_any 2 1 0 _).mono ?_
              rintro e wp1 ⟨rfl, hb⟩
              replace HQ := hid (below_then HQ.out hb)
              clear hb
              go_wp2_with fail
              clear hpre
              clear hS
              refine ky hK (hKP.out _ HQ.out) fun hS => ?_
              clear hK K
              refine rdy [2, 10] (csy (fun K hK => ?_) (csy (fun K hK => ?_) AllReadyH.nil))
              ·skip
               have hpre := hid (show W4.heap.size ≤ wp1.heap.size from HQ.out.size)
               go_simp
               refine (op_any 4 1 0 _).mono ?_
               rintro e wp2 ⟨rfl, hb⟩
               replace HQ := hid (below_then HQ.out hb)
               clear hb
               go_wp2_with fail
               clear hpre
               clear hS
               refine ky hK (hKP.out _ HQ.out) fun hS => ?_
               clear hK K
               refine rdy [3, 10] (csy (fun K hK => ?_) (csy (fun K hK => ?_) AllReadyH.nil))
               ·skip
                have hpre := hid (show W4.heap.size ≤ wp2.heap.size from HQ.out.size)
                go_simp
                refine (op_any 5 0 0 _).mono ?_
                rintro e wp3 ⟨rfl, hb⟩
                replace HQ := hid (below_then HQ.out hb)
                clear hb
                go_wp2_with fail
                clear hpre
                clear hS
                refine ky hK (hKP.out _ HQ.out) fun hS => ?_
                clear hK K
                refine rdy [4, 10] (csy (fun K hK => ?_) (csy (fun K hK => ?_) AllReadyH.nil))
                ·skip
                 have hpre := hid (show W4.heap.size ≤ wp3.heap.size from HQ.out.size)
                 go_simp
                 refine named_alloc ?_
                 intro Wa4 hbk hb hsz
                 replace HQ := hid (below_then HQ.out hb)
                 obtain ⟨ga4, hga⟩ : ∃ g, g = wp3.heap.size := ⟨_, rfl⟩
                 rw [← hga] at hbk ⊢
                 have hlo4 := hid (show W4.heap.size ≤ ga4 by have := hpre.out; omega)
                 have PT := hid hbk
                 clear hb hbk hsz hga hpre
                 clear hS
                 refine ky hK (hKP.out _ HQ.out) fun hS => ?_
                 clear hK K
                 refine rdy [5, 10] (csy (fun K hK => ?_) (csy (fun K hK => ?_) AllReadyH.nil))
                 ·skip
                  have hpre := hid (show W4.heap.size ≤ Wa4.heap.size from HQ.out.size)
                  have hpl4 := hid PT.out.lt
                  go_simp
                  refine (wk_run (L := T3) (some ⟨_, 0, none⟩) 3 3 _ (S6.out.step HQ.out) HK6.out (PT.out.smO (xs := T3) rfl (by intro k hk j hj; have hk' : k < 3 := hk; have hj' : j < 3 := hj; match k, hk', j, hj' with | 0, _, 0, _ => rfl | 0, _, 1, _ => rfl | 0, _, 2, _ => rfl | 1, _, 0, _ => rfl | 1, _, 1, _ => rfl | 1, _, 2, _ => rfl | 2, _, 0, _ => rfl | 2, _, 1, _ => rfl | 2, _, 2, _ => rfl)) (by omega) G5.out).mono ?_
                  rintro e wpl ⟨a9, es9, R9, kr9, rfl, hq9, hr9, ho9, hb⟩
                  replace PT := hid (PT.out.step hb); replace HQ := hid (below_then HQ.out hb)
                  clear hb
                  have RO := hid (ho9.mono (show W4.heap.size ≤ _ by have := HQ.out.size; have := hpre.out; have := hpl4.out; have := hlo4.out; have := PT.out.lt; omega))
                  clear hr9 ho9 hq9
                  go_wp2_with fail
                  clear hpre hpl4
                  clear hS
                  refine ky hK (hKP.out _ HQ.out) fun hS => ?_
                  clear hK K
                  refine tk 6 hS ?_
                  refine tk 7 hS ?_
                  refine tk 8 hS ?_
                  refine tk 9 hS ?_
                  refine rdy [10] (csy (fun K hK => ?_) AllReadyH.nil)
                  have hpre := hid (show W4.heap.size ≤ wpl.heap.size from HQ.out.size)
                  go_simp
                  refine named_alloc ?_
                  intro Wa10 hbk hb hsz
                  replace PT := hid (PT.out.step hb); replace RO := hid (RO.out.step hb); replace HQ := hid (below_then HQ.out hb)
                  obtain ⟨ga10, hga⟩ : ∃ g, g = wpl.heap.size := ⟨_, rfl⟩
                  rw [← hga] at hbk ⊢
                  have hlo10 := hid (show W4.heap.size ≤ ga10 by have := hpre.out; omega)
                  have ZR := hid hbk
                  clear hb hbk hsz hga hpre
                  clear hS
                  refine ky hK (hKP.out _ HQ.out) fun hS => ?_
                  clear hK K
                  revert hS; revert hlo10; revert hlo4; revert HQ; revert ZR; revert RO; revert PT; revert ga10; revert kr9; revert R9; revert a9; revert ga4; revert Wa10
                  exact K0.out
                 ·skip
                  have hpre := hid (show W4.heap.size ≤ Wa4.heap.size from HQ.out.size)
                  go_simp
                  refine named_alloc ?_
                  intro Wa10 hbk hb hsz
                  replace PT := hid (PT.out.step hb); replace HQ := hid (below_then HQ.out hb)
                  obtain ⟨ga10, hga⟩ : ∃ g, g = Wa4.heap.size := ⟨_, rfl⟩
                  rw [← hga] at hbk ⊢
                  have hlo10 := hid (show W4.heap.size ≤ ga10 by have := hpre.out; omega)
                  have ZR := hid hbk
                  clear hb hbk hsz hga hpre
                  clear hS
                  refine ky hK (hKP.out _ HQ.out) fun hS => ?_
                  clear hK K
                  revert hS; revert hlo10; revert hlo4; revert HQ; revert ZR; revert PT; revert ga10; revert ga4; revert Wa10
                  exact K1.out
                ·skip
                 have hpre := hid (show W4.heap.size ≤ wp3.heap.size from HQ.out.size)
                 go_simp
                 refine named_alloc ?_
                 intro Wa10 hbk hb hsz
                 replace HQ := hid (below_then HQ.out hb)
                 obtain ⟨ga10, hga⟩ : ∃ g, g = wp3.heap.size := ⟨_, rfl⟩
                 rw [← hga] at hbk ⊢
                 have hlo10 := hid (show W4.heap.size ≤ ga10 by have := hpre.out; omega)
                 have ZR := hid hbk
                 clear hb hbk hsz hga hpre
                 clear hS
                 refine ky hK (hKP.out _ HQ.out) fun hS => ?_
                 clear hK K
                 revert hS; revert hlo10; revert HQ; revert ZR; revert ga10; revert Wa10
                 exact K2.out
               ·skip
                have hpre := hid (show W4.heap.size ≤ wp2.heap.size from HQ.out.size)
                go_simp
                refine named_alloc ?_
                intro Wa10 hbk hb hsz
                replace HQ := hid (below_then HQ.out hb)
                obtain ⟨ga10, hga⟩ : ∃ g, g = wp2.heap.size := ⟨_, rfl⟩
                rw [← hga] at hbk ⊢
                have hlo10 := hid (show W4.heap.size ≤ ga10 by have := hpre.out; omega)
                have ZR := hid hbk
                clear hb hbk hsz hga hpre
                clear hS
                refine ky hK (hKP.out _ HQ.out) fun hS => ?_
                clear hK K
                revert hS; revert hlo10; revert HQ; revert ZR; revert ga10; revert Wa10
                exact K3.out
              ·skip
               have hpre := hid (show W4.heap.size ≤ wp1.heap.size from HQ.out.size)
               go_simp
               refine named_alloc ?_
               intro Wa10 hbk hb hsz
               replace HQ := hid (below_then HQ.out hb)
               obtain ⟨ga10, hga⟩ : ∃ g, g = wp1.heap.size := ⟨_, rfl⟩
               rw [← hga] at hbk ⊢
               have hlo10 := hid (show W4.heap.size ≤ ga10 by have := hpre.out; omega)
               have ZR := hid hbk
               clear hb hbk hsz hga hpre
               clear hS
               refine ky hK (hKP.out _ HQ.out) fun hS => ?_
               clear hK K
               revert hS; revert hlo10; revert HQ; revert ZR; revert ga10; revert Wa10
               exact K4.out
             ·skip
              have hpre := hid (show W4.heap.size ≤ Wd.heap.size from HQ.out.size)
              go_simp
              refine named_alloc ?_
              intro Wa10 hbk hb hsz
              replace HQ := hid (below_then HQ.out hb)
              obtain ⟨ga10, hga⟩ : ∃ g, g = Wd.heap.size := ⟨_, rfl⟩
              rw [← hga] at hbk ⊢
              have hlo10 := hid (show W4.heap.size ≤ ga10 by have := hpre.out; omega)
              have ZR := hid hbk
              clear hb hbk hsz hga hpre
              clear hS
              refine ky hK (hKP.out _ HQ.out) fun hS => ?_
              clear hK K
              refine rdy [1] (csy (fun K hK => ?_) AllReadyH.nil)
              have hpre := hid (show W4.heap.size ≤ Wa10.heap.size from HQ.out.size)
              have hpl10 := hid ZR.out.lt
              go_simp
              refine (op_any 2 1 0 _).mono ?_
              rintro e wp1 ⟨rfl, hb⟩
              replace ZR := hid (ZR.out.step hb); replace HQ := hid (below_then HQ.out hb)
              clear hb
              go_wp2_with fail
              clear hpre hpl10
              clear hS
              refine ky hK (hKP.out _ HQ.out) fun hS => ?_
              clear hK K
              revert hS; revert hlo10; revert HQ; revert ZR; revert ga10; revert wp1
              exact K4.out
            ·skip
             intro Wm ga10 ZR HQ hlo10 hS
             refine rdy [2] (csy (fun K hK => ?_) AllReadyH.nil)
             have hpre := hid (show W4.heap.size ≤ Wm.heap.size from HQ.out.size)
             have hpl10 := hid ZR.out.lt
             go_simp
             refine (op_any 4 1 0 _).mono ?_
             rintro e wp2 ⟨rfl, hb⟩
             replace ZR := hid (ZR.out.step hb); replace HQ := hid (below_then HQ.out hb)
             clear hb
             go_wp2_with fail
             clear hpre hpl10
             clear hS
             refine ky hK (hKP.out _ HQ.out) fun hS => ?_
             clear hK K
             revert hS; revert hlo10; revert HQ; revert ZR; revert ga10; revert wp2
             exact K3.out
            ·skip
             intro Wm ga10 ZR HQ hlo10 hS
             refine rdy [3] (csy (fun K hK => ?_) AllReadyH.nil)
             have hpre := hid (show W4.heap.size ≤ Wm.heap.size from HQ.out.size)
             have hpl10 := hid ZR.out.lt
             go_simp
             refine (op_any 5 0 0 _).mono ?_
             rintro e wp3 ⟨rfl, hb⟩
             replace ZR := hid (ZR.out.step hb); replace HQ := hid (below_then HQ.out hb)
             clear hb
             go_wp2_with fail
             clear hpre hpl10
             clear hS
             refine ky hK (hKP.out _ HQ.out) fun hS => ?_
             clear hK K
             revert hS; revert hlo10; revert HQ; revert ZR; revert ga10; revert wp3
             exact K2.out
            ·skip
             intro Wm ga10 ZR HQ hlo10 hS
             refine rdy [4] (csy (fun K hK => ?_) AllReadyH.nil)
             have hpre := hid (show W4.heap.size ≤ Wm.heap.size from HQ.out.size)
             go_simp
             refine named_alloc ?_
             intro Wa4 hbk hb hsz
             replace ZR := hid (ZR.out.step hb); replace HQ := hid (below_then HQ.out hb)
             obtain ⟨ga4, hga⟩ : ∃ g, g = Wm.heap.size := ⟨_, rfl⟩
             rw [← hga] at hbk ⊢
             have hlo4 := hid (show W4.heap.size ≤ ga4 by have := hpre.out; omega)
             have PT := hid hbk
             clear hb hbk hsz hga hpre
             clear hS
             refine ky hK (hKP.out _ HQ.out) fun hS => ?_
             clear hK K
             revert hS; revert hlo10; revert hlo4; revert HQ; revert ZR; revert PT; revert ga10; revert ga4; revert Wa4
             exact K1.out
            ·skip
             intro Wm ga4 ga10 PT ZR HQ hlo4 hlo10 hS
             refine rdy [5] (csy (fun K hK => ?_) AllReadyH.nil)
             have hpre := hid (show W4.heap.size ≤ Wm.heap.size from HQ.out.size)
             have hpl4 := hid PT.out.lt
             have hpl10 := hid ZR.out.lt
             go_simp
             refine (wk_run (L := T3) (some ⟨_, 0, none⟩) 3 3 _ (S6.out.step HQ.out) HK6.out (PT.out.smO (xs := T3) rfl (by intro k hk j hj; have hk' : k < 3 := hk; have hj' : j < 3 := hj; match k, hk', j, hj' with | 0, _, 0, _ => rfl | 0, _, 1, _ => rfl | 0, _, 2, _ => rfl | 1, _, 0, _ => rfl | 1, _, 1, _ => rfl | 1, _, 2, _ => rfl | 2, _, 0, _ => rfl | 2, _, 1, _ => rfl | 2, _, 2, _ => rfl)) (by omega) G5.out).mono ?_
             rintro e wpl ⟨a9, es9, R9, kr9, rfl, hq9, hr9, ho9, hb⟩
             replace PT := hid (PT.out.step hb); replace ZR := hid (ZR.out.step hb); replace HQ := hid (below_then HQ.out hb)
             clear hb
             have RO := hid (ho9.mono (show W4.heap.size ≤ _ by have := HQ.out.size; have := hpre.out; have := hpl4.out; have := hpl10.out; have := hlo4.out; have := PT.out.lt; have := hlo10.out; have := ZR.out.lt; omega))
             clear hr9 ho9 hq9
             go_wp2_with fail
             clear hpre hpl4 hpl10
             clear hS
             refine ky hK (hKP.out _ HQ.out) fun hS => ?_
             clear hK K
             refine tk 6 hS ?_
             refine tk 7 hS ?_
             refine tk 8 hS ?_
             refine tk 9 hS ?_
             revert hS; revert hlo10; revert hlo4; revert HQ; revert ZR; revert RO; revert PT; revert ga10; revert kr9; revert R9; revert a9; revert ga4; revert wpl
             exact K0.out
            ·skip
             intro Wm ga4 a9 R9 kr9 ga10 PT RO ZR HQ hlo4 hlo10 hS
             refine rdy [11] (csy (fun K hK => ?_) AllReadyH.nil)
             have hpre := hid (show W4.heap.size ≤ Wm.heap.size from HQ.out.size)
             obtain ⟨y00, y01, y02, y03, y04, y05, y06, y07, yf0⟩ := ZR.out.cells8
             go_simp
             clear y00 y01 y02 y03 y04 y05 y06 y07 yf0
             refine named_store_8_8_0 ZR.out ?_
             intro Ws11 hbk hgr hsz
             clear hsz
             replace RO := hid (RO.out.keptR ZR.out (by decide) hgr)
             replace HQ := hid (HQ.out.grown hgr HQ.out.size (fun r e => by cases e; have := HQ.out.size; have := hlo4.out; have := PT.out.lt; have := hlo10.out; have := ZR.out.lt; omega))
             replace ZR := hid hbk
             clear hbk hgr hpre
             clear hS
             refine ky hK (hKP.out _ HQ.out) fun hS => ?_
             clear hK K
             refine tk 12 hS ?_
             refine tk 13 hS ?_
             refine wpAnyH_done (by kernel_rfl) ?_ _
             refine NoPanic.normal ?_
             clear hS
             go_wp2_with fail
             go_meet
             exact ⟨_, _, rfl, rfl, RO.out, HQ.out⟩
        case rest =>
          obtain ⟨E5, ke5, rfl, rfl, h1, h2⟩ := hcut
          rename World => W5
          have EM := hid h1
          replace HB := hid (below_then HB.out h2); replace XP := hid (XP.out.step h2); replace XR := hid (XR.out.step h2); replace EL := hid (EL.out.step h2); replace P6 := hid (P6.out.step h2); replace S6 := hid (S6.out.step h2)
          clear h1 h2 HQ G4 G5
          obtain ⟨y00, y01, y02, y03, y04, y05, y06, y07, yf0⟩ := P6.out.cells8
          go_wp2_with fail
          clear y00 y01 y02 y03 y04 y05 y06 y07 yf0
          refine (rsettle_open s1 g1 es6 a6 _ S6.out (rcOk_iff.2 HK6.out) F2.out).mono ?_
          rintro e W6 ⟨a7, R7, nr7, kr7, rfl, _, hb⟩
          replace XP := hid (XP.out.step hb); replace XR := hid (XR.out.step hb); replace EL := hid (EL.out.step hb); replace P6 := hid (P6.out.step hb); replace S6 := hid (S6.out.step hb); replace EM := hid (EM.out.step hb); replace HB := hid (below_then HB.out hb)
          clear hb
          dsimp only
          have zE : rcv (0, [], []) zGr a7 = .agg #[.int .i64 0, .slice a7.A a7.n a7.k, .slice a7.B a7.m a7.d, .int .i64 0, .int .i64 0, .bool false, .slice a7.D 0 a7.kd, .slice a7.Q a7.nq a7.kq] := rfl
          rw [zE]
          clear zE
          have bx := below_box W6 (.cells #[.int .i64 0, .slice a7.A a7.n a7.k, .slice a7.B a7.m a7.d, .int .i64 0, .int .i64 0, .bool false, .slice a7.D 0 a7.kd, .slice a7.Q a7.nq a7.kq] 30)
          replace XP := hid (XP.out.step bx); replace XR := hid (XR.out.step bx); replace EL := hid (EL.out.step bx); replace P6 := hid (P6.out.step bx); replace S6 := hid (S6.out.step bx); replace EM := hid (EM.out.step bx); replace HB := hid (below_then HB.out bx)
          clear bx
          go_upto_region 7 with fail
          generalize W6.alloc (.cells #[.int .i64 0, .slice a7.A a7.n a7.k, .slice a7.B a7.m a7.d, .int .i64 0, .int .i64 0, .bool false, .slice a7.D 0 a7.kd, .slice a7.Q a7.nq a7.kq] 30) = W7 at *
          go_wp2_with fail
          have bx := below_box W7 (.cells #[.int .u64 7] 35)
          replace XP := hid (XP.out.step bx); replace XR := hid (XR.out.step bx); replace EL := hid (EL.out.step bx); replace P6 := hid (P6.out.step bx); replace S6 := hid (S6.out.step bx); replace EM := hid (EM.out.step bx); replace HB := hid (below_then HB.out bx)
          clear bx
          have B1 := hid (Blk.new W7 35 #[.int .u64 7])
          generalize W7.alloc (.cells #[.int .u64 7] 35) = W8 at *
          refine (equal_u64 E2 _ 1 ke2 1 1 0 _ 0 _ [7] [7] _ ((EL.out.sl (d := 0)).mono (Nat.zero_le _) (Nat.le_refl _)) ((B1.out.ow (enc := u64v) (xs := [7]) (lo := 0) (n := 1) rfl rfl (Nat.zero_le _) (by simp [maxLen])).sl (d := 0)) (by omega) (by omega)).mono ?_
          rintro e W9 ⟨rfl, hb⟩
          replace XP := hid (XP.out.step hb); replace XR := hid (XR.out.step hb); replace EL := hid (EL.out.step hb); replace P6 := hid (P6.out.step hb); replace S6 := hid (S6.out.step hb); replace EM := hid (EM.out.step hb); replace B1 := hid (B1.out.step hb); replace HB := hid (below_then HB.out hb)
          clear hb
          rw [show decide (([7] : List Int) = [7]) = true by decide]
          go_wp2_with fail
          refine (equal_u64 E5 E2 1 ke5 1 ke2 0 _ 0 _ [7] [7] _ ((EM.out.sl (d := 0)).mono (Nat.zero_le _) (Nat.le_refl _)) ((EL.out.sl (d := 0)).mono (Nat.zero_le _) (Nat.le_refl _)) (by omega) (by omega)).mono ?_
          rintro e W10 ⟨rfl, hb⟩
          replace XP := hid (XP.out.step hb); replace XR := hid (XR.out.step hb); replace EL := hid (EL.out.step hb); replace P6 := hid (P6.out.step hb); replace S6 := hid (S6.out.step hb); replace EM := hid (EM.out.step hb); replace B1 := hid (B1.out.step hb); replace HB := hid (below_then HB.out hb)
          clear hb
          rw [show decide (([7] : List Int) = [7]) = true by decide]
          obtain ⟨y00, y01, y02, y03, y04, y05, y06, y07, yf0⟩ := P6.out.cells8
          go_wp2_with fail
          clear y00 y01 y02 y03 y04 y05 y06 y07 yf0
          refine (rwaiting_any s1 g1 es6 a6 _ S6.out).mono ?_
          rintro e W11 ⟨rfl, hb⟩
          replace XP := hid (XP.out.step hb); replace XR := hid (XR.out.step hb); replace EL := hid (EL.out.step hb); replace P6 := hid (P6.out.step hb); replace S6 := hid (S6.out.step hb); replace EM := hid (EM.out.step hb); replace B1 := hid (B1.out.step hb); replace HB := hid (below_then HB.out hb)
          clear hb
          rw [if_pos (rcOk_iff.2 HK6.out), N6.out]
          obtain ⟨y00, y01, y02, y03, y04, y05, y06, y07, yf0⟩ := XP.out.cells8
          go_wp2_with fail
          clear y00 y01 y02 y03 y04 y05 y06 y07 yf0
          refine (ridle_any (nSt 2) (nGr 2) (List.replicate 2 zQe) a _ XR.out).mono ?_
          rintro e W12 ⟨rfl, hb⟩
          replace XP := hid (XP.out.step hb); replace XR := hid (XR.out.step hb); replace EL := hid (EL.out.step hb); replace P6 := hid (P6.out.step hb); replace S6 := hid (S6.out.step hb); replace EM := hid (EM.out.step hb); replace B1 := hid (B1.out.step hb); replace HB := hid (below_then HB.out hb)
          clear hb
          rw [show (decide (RcOk (nSt 2) (nGr 2) (List.replicate 2 zQe)) && idleB (nSt 2) (nGr 2) (ql (List.replicate 2 zQe))) = true by rw [decide_eq_true (rcOk_iff.2 HQ1.out), ql_rep, Bool.true_and]; decide +kernel]
          obtain ⟨y00, y01, y02, y03, y04, y05, y06, y07, yf0⟩ := P6.out.cells8
          go_wp2_with fail
          clear y00 y01 y02 y03 y04 y05 y06 y07 yf0
          refine (ridle_any s1 g1 es6 a6 _ S6.out).mono ?_
          rintro e W13 ⟨rfl, hb⟩
          replace XP := hid (XP.out.step hb); replace XR := hid (XR.out.step hb); replace EL := hid (EL.out.step hb); replace P6 := hid (P6.out.step hb); replace S6 := hid (S6.out.step hb); replace EM := hid (EM.out.step hb); replace B1 := hid (B1.out.step hb); replace HB := hid (below_then HB.out hb)
          clear hb
          rw [show (decide (RcOk s1 g1 es6) && idleB s1 g1 (ql es6)) = false by unfold idleB; rw [F2.out, Bool.false_and, Bool.and_false]]
          go_wp2_with fail
          refine bodyPost_ret (v := .bool true) (by simp [results, Tryz.results6, go_sem]) rfl ⟨rfl, HB.out⟩
end Go.Proofs.YtfipdoofgbjbjaaGreat

/- what the law RcuSteps stands on: own and Step as it uses them; a row of ops copied; ops, one behind the other, plainly. No condition but sizes. -/
namespace Go.Proofs.YtfipdoofgbjbjaaGreat
open Go.RowKit
theorem info_rop : (Tryz.prog.info? 37).map (fun i => (i.zero, i.size, i.bytes)) = some (some (.agg #[.int .i64 0, .int .i64 0, .int .u64 0]), 3, 24) := by kernel_rfl
theorem encO_one (y : Int × Int × Int) (j : Nat) (_ : j < 3) : (encO y j).oneCell' = true := by
  unfold encO
  split
  · rfl
  · split <;> rfl
set_option maxHeartbeats 400000 in
theorem clone_op (A : Option Addr) (n c lo : Nat) (xs : List _) (w : World) (h : Sm 3 encO (0, 0, 0) w lo w.heap.size A n xs) (hn : n ≤ 1000000) :
    Calls Tryz.prog 8 #[.slice A n c] w fun e w' => ∃ A' c', e = .returned (.slice A' n c') ∧ Om 3 encO w' w.heap.size 37 A' n c' xs ∧ Below w.heap.size w w' := by
  obtain ⟨i0, hi0, hz00, hz01, hz02⟩ := info_parts info_rop
  have hq := fun W a n c => run_eqnil (P := Tryz.prog) (t := 31) Tryz.underlying31 W a n c
  rcases A with _ | ad
  · obtain ⟨rfl, rfl⟩ := h.none_
    go_enter Tryz.func8, Tryz.ntmps8
    go_wp2
    go_ret
    exact ⟨none, 0, rfl, Om.nil _ _ _, Below.refl _ _⟩
  · go_enter Tryz.func8, Tryz.ntmps8
    go_wp2_with (at_builtin; refine wpList_appm 3 encO (0, 0, 0) _ rfl _ _ 31 rfl w.heap.size 37 i0 _ 24 Tryz.underlying31 hi0 hz00 hz01 hz02 rfl (by omega) _ _ _ [] rfl (Om.empty w _ _ (Nat.le_refl _)) lo w.heap.size (some ad) n c xs rfl (h.alloc (Nat.le_refl _) _) encO_one (by simp only [maxLen]; omega) (by omega) (by simp) ?_; intro A1 c1 w1 hown1 hg1 hat1; simp only [Nat.zero_add, List.nil_append] at hown1)
    go_ret
    refine ⟨A1, c1, by simp, hown1, ?_⟩
    exact ((Below.refl _ w).alloc (Nat.le_refl _) _).grown hg1 (by simp) (fun k hk => by simp [Value.ownBlock] at hk; omega)

def cutq (qs : Qs) : Qs := (qs.take 9).map fun x => (x.1.take 18, x.2)
theorem cutQ_eq (es : List Qe) : cutQ es = cutq (ql es) := by unfold cutQ cutq ql; rw [← List.map_take, List.map_map]; rfl
/-- what own leaves as it is -/
def Cut (s : St) (g : Gr) (qs : Qs) : Prop := cutS s = s ∧ cutG g = g ∧ cutq qs = qs
theorem cut_cut (s : St) (g : Gr) (qs : Qs) : Cut (cutS s) (cutG g) (cutq qs) := by
  refine ⟨?_, ?_, ?_⟩
  · unfold cutS; simp only [List.take_take, Nat.min_self]
  · unfold cutG; simp only [List.take_take, Nat.min_self]
  · unfold cutq
    rw [← List.map_take, List.take_take, List.map_map]
    refine List.map_congr_left fun x _ => ?_
    simp [List.take_take]
theorem cut_zero : Cut zSt zGr [] := ⟨rfl, rfl, rfl⟩
theorem cut_good {s : St} {g : Gr} {qs : Qs} (h : RcGood s g qs) : Cut s g qs := by
  obtain ⟨⟨b1, b2, b3⟩, hlen, hq⟩ := h
  have h1 := b1.1.2.1; have h2 := b1.1.2.2.1; have h3 := b2.2.1
  refine ⟨?_, ?_, ?_⟩
  · unfold cutS; rw [List.take_of_length_le (by omega), List.take_of_length_le (by omega)]
  · unfold cutG; rw [List.take_of_length_le (by omega)]
  · unfold cutq
    rw [List.take_of_length_le (by omega)]
    conv => rhs; rw [← List.map_id qs]
    refine List.map_congr_left fun x hx => ?_
    have := (hq x hx).1.2.1
    rw [List.take_of_length_le (by omega)]; rfl
/-- rows have room for what they hold -/
def Cap (g : Gr) (a : Ra) : Prop := g.nd.length ≤ a.kd ∧ a.nq ≤ a.kq
theorem RcR.inn {w : World} {s : St} {g : Gr} {es : List Qe} {a : Ra} (h : RcR w s g es a) (c : Cap g a) : RcIn w s g es a :=
  ⟨h.rd.hx, h.rd.hnc, h.rd.hy, h.rd.hmd, h.gd, c.1, h.gi, h.qs, c.2, fun x hx => ⟨(h.qe x hx).1, (h.qe x hx).2.1, (h.qe x hx).2.2.2⟩⟩
/-- what own hands back -/
def OwC (s : St) (g : Gr) (qs : Qs) (w : World) (e : Ending) (w' : World) : Prop :=
  ∃ a' es', e = .returned (rcv s g a') ∧ ql es' = qs ∧ a'.nq = es'.length ∧ Cap g a' ∧ RcP (fun i => i < w.heap.size) w' s g es' a' ∧ Below w.heap.size w w'
theorem own0_any (s : St) (g : Gr) (es : List Qe) (a : Ra) (w : World) (h : RcIn w s g es a) : Calls Tryz.prog 7 #[rcv s g a] w (OwC (cutS s) (cutG g) (cutq (ql es)) w) := by
  refine (ownP_any s g es a w h).mono ?_
  rintro e w' ⟨a', es', rfl, h1, h2, h3, h4, hb⟩
  exact ⟨a', es', rfl, by rw [h1, cutQ_eq], h2, ⟨h4.gd.cap.1, h4.qs.cap.1⟩, h3, hb⟩
theorem ownC_any (s : St) (g : Gr) (es : List Qe) (a : Ra) (w : World) (h : RcR w s g es a) (c : Cap g a) (hc : Cut s g (ql es)) : Calls Tryz.prog 7 #[rcv s g a] w (OwC s g (ql es) w) := by
  have := own0_any s g es a w (h.inn c)
  rwa [hc.1, hc.2.1, hc.2.2] at this
/-- what Step hands back -/
def StQ (r : Int × St × Gr × Qs × List Int) (w : World) (x : Ending) (w' : World) : Prop :=
  ∃ a es, x = .returned (.tuple #[rcv r.2.1 r.2.2.1 a, .int .u64 (lastO r.2.2.2.2), .int .i64 r.1]) ∧ ql es = r.2.2.2.1 ∧ a.nq = es.length ∧ Cap r.2.2.1 a ∧ RcP (fun i => i < w.heap.size) w' r.2.1 r.2.2.1 es a ∧ Spl w' (fun i => w.heap.size ≤ i ∧ i < w'.heap.size) a r.2.2.1.nd.length es ∧ Below w.heap.size w w'
theorem rstepQ_any (s : St) (g : Gr) (es : List Qe) (a : Ra) (o : Int × Int × Int) (w : World) (h : RcR w s g es a) :
    Calls Tryz.prog 10 #[rcv s g a, .agg (ocs o)] w (StQ (rcA s g es [o]) w) := by
  refine (rstep_any s g es a o w h).mono ?_
  rintro x w' ⟨a', R, nr, kr, rfl, ⟨es', gc, h1, h2⟩, hb⟩
  obtain ⟨k1, k2, k3⟩ := rcA_small h1
  have hl : a'.nq = es'.length := h2.qs.len.symm
  exact ⟨a', es', rfl, h1, hl, ⟨h2.gd.cap.1, h2.qs.cap.1⟩, fun w2 k => (h2.lowP k (fun i hi => hi)).rcr0 k1 k2 (by omega), h2.spl k1 (by omega), hb⟩
/-- what Run hands back -/
def RnQ (r : Int × St × Gr × Qs × List Int) (w : World) (x : Ending) (w' : World) : Prop :=
  ∃ a es R nr kr, x = .returned (.tuple #[rcv r.2.1 r.2.2.1 a, .slice R nr kr, .int .i64 r.1]) ∧ ql es = r.2.2.2.1 ∧ a.nq = es.length ∧ RcP (fun i => i < w.heap.size) w' r.2.1 r.2.2.1 es a ∧ Ow u64v w' w.heap.size 35 R nr kr r.2.2.2.2 ∧ Below w.heap.size w w'
theorem rrunQ_any (s : St) (g : Gr) (es : List Qe) (a : Ra) (T : Option Addr) (nt kt : Nat) (L : List (Int × Int × Int)) (w : World) (h : RcR w s g es a) (hT : Sm 3 encO (0, 0, 0) w 0 w.heap.size T nt L) (hnt : nt ≤ 1000000) :
    Calls Tryz.prog 14 #[rcv s g a, .slice T nt kt] w (RnQ (rcA s g es L) w) := by
  refine (rrunall_any s g es a T nt kt L w h hT hnt).mono ?_
  rintro x w' ⟨a', R, nr, kr, rfl, ⟨es', gc, h1, h2⟩, hb⟩
  obtain ⟨k1, k2, k3⟩ := rcA_small h1
  have hl : a'.nq = es'.length := h2.qs.len.symm
  exact ⟨a', es', R, nr, kr, rfl, h1, hl, fun w2 k => (h2.lowP k (fun i hi => hi)).rcr0 k1 k2 (by omega), h2.rn, hb⟩
theorem opsA_ran0 (s : St) (g : Gr) (qs : Qs) (ran : List Int) (o : Int × Int × Int) : opsA s g qs ran [o] = if (opsA s g qs [] [o]).1 = 0 then (0, (opsA s g qs [] [o]).2.1, (opsA s g qs [] [o]).2.2.1, (opsA s g qs [] [o]).2.2.2.1, ran ++ (opsA s g qs [] [o]).2.2.2.2) else opsA s g qs [] [o] := by
  rw [ops1]
  have e : opsA s g qs ran [o] = if (opF s g qs o).1 = 0 then (0, (opF s g qs o).2.1, (opF s g qs o).2.2.1, (opF s g qs o).2.2.2.1, ran ++ (opF s g qs o).2.2.2.2) else ((opF s g qs o).1, (0, [], []), zGr, [], []) := by
    unfold opsA; split
    · unfold opsA; rfl
    · rfl
  rw [e]
  by_cases h : (opF s g qs o).1 = 0
  · rw [if_pos h, if_pos h]; rfl
  · rw [if_neg h, if_neg h, if_neg (show ¬ (opF s g qs o).1 = 0 from h)]
theorem opsA_snoc (o : Int × Int × Int) : ∀ (L : List (Int × Int × Int)) (s : St) (g : Gr) (qs : Qs) (ran : List Int), opsA s g qs ran (L ++ [o]) = if (opsA s g qs ran L).1 = 0 then opsA (opsA s g qs ran L).2.1 (opsA s g qs ran L).2.2.1 (opsA s g qs ran L).2.2.2.1 (opsA s g qs ran L).2.2.2.2 [o] else opsA s g qs ran L
  | [], s, g, qs, ran => by
    rw [List.nil_append]
    have : opsA s g qs ran [] = (0, s, g, qs, ran) := by unfold opsA; rfl
    rw [this, if_pos rfl]
  | p :: L, s, g, qs, ran => by
    have ih := opsA_snoc o L (opF s g qs p).2.1 (opF s g qs p).2.2.1 (opF s g qs p).2.2.2.1 (ran ++ (opF s g qs p).2.2.2.2)
    have e : ∀ M, opsA s g qs ran (p :: M) = if (opF s g qs p).1 = 0 then opsA (opF s g qs p).2.1 (opF s g qs p).2.2.1 (opF s g qs p).2.2.2.1 (ran ++ (opF s g qs p).2.2.2.2) M else ((opF s g qs p).1, (0, [], []), zGr, [], []) := fun M => by rw [opsA]
    rw [List.cons_append, e, e]
    by_cases h : (opF s g qs p).1 = 0
    · rw [if_pos h, if_pos h]; exact ih
    · rw [if_neg h, if_neg h, if_neg h]
/-- an op runs one callback, or none -/
theorem ran_one {s : St} {g : Gr} {qs : Qs} {o : Int × Int × Int} (h : (opsA s g qs [] [o]).1 = 0) : (opsA s g qs [] [o]).2.2.2.2 = if o.1 = 5 then [lastO (opsA s g qs [] [o]).2.2.2.2] else [] := by
  rw [ops1] at h ⊢
  by_cases h0 : (opF s g qs o).1 = 0
  · rw [if_pos h0]
    dsimp only
    unfold opF at h0 ⊢
    obtain ⟨k, c, x⟩ := o
    dsimp only at h0 ⊢
    by_cases h1 : k < 1 ∨ 5 < k
    · rw [if_pos h1] at h0; exact absurd h0 (show ¬ ((242 : Int) = 0) by decide)
    rw [if_neg h1] at h0 ⊢
    by_cases h2 : c < 0 ∨ (qs.length : Int) ≤ c
    · rw [if_pos h2] at h0; exact absurd h0 (show ¬ ((2 : Int) = 0) by decide)
    rw [if_neg h2] at h0 ⊢
    by_cases k1 : k = 1 ∨ k = 2
    · rw [if_pos k1, if_neg (by omega)]
    rw [if_neg k1] at h0 ⊢
    by_cases k3 : k = 3
    · rw [if_pos k3, if_neg (show ¬ k = 5 by omega)]
      split <;> rfl
    rw [if_neg k3]
    by_cases k4 : k = 4
    · rw [if_pos k4, if_neg (show ¬ k = 5 by omega)]
    rw [if_neg k4, if_pos (show k = 5 by omega)]
    rfl
  · rw [if_neg h0] at h; exact absurd h h0
/-- one op more -/
theorem rcA_next {s : St} {g : Gr} {es : List Qe} {L : List (Int × Int × Int)} {i : Nat} (hi : i < L.length) : rcA s g es (L.take (i + 1)) = if (rcA s g es (L.take i)).1 = 0 then opsA (rcA s g es (L.take i)).2.1 (rcA s g es (L.take i)).2.2.1 (rcA s g es (L.take i)).2.2.2.1 (rcA s g es (L.take i)).2.2.2.2 [L[i]?.getD (0, 0, 0)] else rcA s g es (L.take i) := by
  unfold rcA
  by_cases hok : RcOk s g es
  · rw [if_pos hok, if_pos hok, List.take_succ_eq_append_getElem hi, opsA_snoc, List.getElem?_eq_getElem hi]; rfl
  · rw [if_neg hok, if_neg hok]; rfl
theorem rcA_good {s : St} {g : Gr} {es : List Qe} {L : List (Int × Int × Int)} (h : RcGood s g (ql es)) : rcA s g es L = opsA s g (ql es) [] L := if_pos (rcOk_iff.2 h)
theorem rcA_bad {s : St} {g : Gr} {es : List Qe} {L : List (Int × Int × Int)} (h : ¬ RcGood s g (ql es)) : rcA s g es L = (240, zSt, zGr, [], []) := if_neg (fun k => h (rcOk_iff.1 k))
end Go.Proofs.YtfipdoofgbjbjaaGreat

/- the law RcuSteps: what its rounds come to, plainly. No condition. -/
namespace Go.Proofs.YtfipdoofgbjbjaaGreat
open Go.RowKit
/-- behind j ops: what stands in r, in at, in all; the error; whether r may be -/
structure StI (s : St) (g : Gr) (es : List Qe) (L : List (Int × Int × Int)) (j : Nat) (E : Int) (s5 : St) (g5 : Gr) (q5 : Qs) (al : List Int) (s7 : St) (g7 : Gr) (q7 : Qs) (Rb : Bool) : Prop where
  x : (rcA s g es (L.take j)).1 = E
  z : E = 0 → rcA s g es (L.take j) = (0, s5, g5, q5, al) ∧ s7 = s5 ∧ g7 = g5 ∧ q7 = q5 ∧ Rb = true
  r : Rb = decide (RcGood s5 g5 q5)
  c : Cut s5 g5 q5
  n : al.length ≤ j
section
variable {s : St} {g : Gr} {es : List Qe} {L : List (Int × Int × Int)} {j : Nat} {E : Int} {s5 : St} {g5 : Gr} {es5 : List Qe} {al : List Int} {s7 : St} {g7 : Gr} {q7 : Qs} {Rb : Bool}
theorem StI.start (hr : Rb = decide (RcGood s g (ql es))) (hc : Cut s g (ql es)) : StI s g es L 0 (if Rb then 0 else 240) s g (ql es) [] s g (ql es) Rb := by
  have e0 : opsA s g (ql es) [] [] = (0, s, g, ql es, []) := by unfold opsA; rfl
  cases Rb
  · have hn : ¬ RcGood s g (ql es) := of_decide_eq_false hr.symm
    exact ⟨by rw [rcA_bad hn]; rfl, fun h => absurd h (by decide), hr, hc, Nat.le_refl _⟩
  · have hn : RcGood s g (ql es) := of_decide_eq_true hr.symm
    exact ⟨by rw [List.take_zero, rcA_good hn, e0]; rfl, fun _ => ⟨by rw [List.take_zero, rcA_good hn, e0], rfl, rfl, rfl, rfl⟩, hr, hc, Nat.le_refl _⟩
theorem StI.good (h : StI s g es L j E s5 g5 (ql es5) al s7 g7 q7 Rb) {o : Int × Int × Int} (h0 : (rcA s5 g5 es5 [o]).1 = 0) : RcGood s5 g5 (ql es5) := by
  by_cases hn : RcGood s5 g5 (ql es5)
  · exact hn
  · rw [rcA_bad hn] at h0; exact absurd h0 (by decide)
theorem StI.bad (h : StI s g es L j E s5 g5 (ql es5) al s7 g7 q7 Rb) (hj : j < L.length) {Y : Int × St × Gr × Qs × List Int} (hY : Y = rcA s5 g5 es5 [L[j]?.getD (0, 0, 0)]) (h0 : Y.1 ≠ 0) :
    StI s g es L (j + 1) (if E = 0 then Y.1 else E) s5 g5 (ql es5) al s7 g7 q7 Rb := by
  subst hY
  refine ⟨?_, fun he => ?_, h.r, h.c, Nat.le_succ_of_le h.n⟩
  · rw [rcA_next hj]
    by_cases hE : E = 0
    · obtain ⟨z1, _, _, _, z5⟩ := h.z hE
      have hg : RcGood s5 g5 (ql es5) := of_decide_eq_true (by rw [← h.r]; exact z5)
      rw [if_pos hE, z1, if_pos rfl, opsA_ran0]
      rw [rcA_good hg] at h0 ⊢
      rw [if_neg h0]
    · rw [if_neg hE, if_neg (by rw [h.x]; exact hE), h.x]
  · exfalso
    by_cases hE : E = 0
    · rw [if_pos hE] at he; exact h0 he
    · rw [if_neg hE] at he; exact hE he
theorem StI.ok0 (h : StI s g es L j 0 s5 g5 (ql es5) al s7 g7 q7 Rb) (hj : j < L.length) {Y : Int × St × Gr × Qs × List Int} (hY : Y = rcA s5 g5 es5 [L[j]?.getD (0, 0, 0)]) (h0 : Y.1 = 0) :
    StI s g es L (j + 1) 0 Y.2.1 Y.2.2.1 Y.2.2.2.1 (al ++ if (L[j]?.getD (0, 0, 0)).1 = 5 then [lastO Y.2.2.2.2] else []) Y.2.1 Y.2.2.1 Y.2.2.2.1 Rb := by
  subst hY
  have hg := h.good h0
  obtain ⟨z1, _, _, _, z5⟩ := h.z rfl
  rw [rcA_good hg] at h0 ⊢
  have hgn := good_opsA hg h0
  have e : rcA s g es (L.take (j + 1)) = (0, (opsA s5 g5 (ql es5) [] [L[j]?.getD (0, 0, 0)]).2.1, (opsA s5 g5 (ql es5) [] [L[j]?.getD (0, 0, 0)]).2.2.1, (opsA s5 g5 (ql es5) [] [L[j]?.getD (0, 0, 0)]).2.2.2.1, al ++ if (L[j]?.getD (0, 0, 0)).1 = 5 then [lastO (opsA s5 g5 (ql es5) [] [L[j]?.getD (0, 0, 0)]).2.2.2.2] else []) := by
    rw [rcA_next hj, z1, if_pos rfl, opsA_ran0, if_pos h0, ← ran_one h0]
  refine ⟨by rw [e], fun _ => ⟨e, rfl, rfl, rfl, z5⟩, by rw [z5]; exact (decide_eq_true hgn).symm, cut_good hgn, ?_⟩
  rw [List.length_append]
  have := h.n
  split <;> simp <;> omega
theorem StI.ok1 (h : StI s g es L j E s5 g5 (ql es5) al s7 g7 q7 Rb) (hE : E ≠ 0) (hj : j < L.length) {Y : Int × St × Gr × Qs × List Int} (hY : Y = rcA s5 g5 es5 [L[j]?.getD (0, 0, 0)]) (h0 : Y.1 = 0) :
    StI s g es L (j + 1) E Y.2.1 Y.2.2.1 Y.2.2.2.1 al s7 g7 q7 Rb := by
  subst hY
  have hg := h.good h0
  have hR : Rb = true := by rw [h.r]; exact decide_eq_true hg
  rw [rcA_good hg] at h0 ⊢
  have hgn := good_opsA hg h0
  exact ⟨by rw [rcA_next hj, if_neg (by rw [h.x]; exact hE), h.x], fun he => absurd he hE, by rw [hR]; exact (decide_eq_true hgn).symm, cut_good hgn, Nat.le_succ_of_le h.n⟩
theorem StI.fin (h : StI s g es L j E s5 g5 (ql es5) al s7 g7 q7 Rb) (hj : L.length ≤ j) : (E = 0 ∧ rcA s g es L = (0, s7, g7, q7, al)) ∨ (E ≠ 0 ∧ rcA s g es L = (E, zSt, zGr, [], [])) := by
  have hx := h.x; have hz := h.z
  rw [List.take_of_length_le hj] at hx hz
  by_cases hE : E = 0
  · obtain ⟨z1, z2, z3, z4, _⟩ := hz hE
    exact .inl ⟨hE, by rw [z1, z2, z3, z4]⟩
  · have := rcA_nz (s := s) (g := g) (es := es) (L := L) (by rw [hx]; exact hE)
    refine .inr ⟨hE, ?_⟩
    clear hz
    generalize rcA s g es L = X at *
    obtain ⟨a, b⟩ := X
    dsimp only at hx this
    rw [hx, this]; rfl
theorem cut_rcA {o : Int × Int × Int} : Cut (rcA s5 g5 es5 [o]).2.1 (rcA s5 g5 es5 [o]).2.2.1 (rcA s5 g5 es5 [o]).2.2.2.1 := by
  by_cases h0 : (rcA s5 g5 es5 [o]).1 = 0
  · by_cases hn : RcGood s5 g5 (ql es5)
    · rw [rcA_good hn] at h0 ⊢; exact cut_good (good_opsA hn h0)
    · rw [rcA_bad hn] at h0; exact absurd h0 (by decide)
  · rw [rcA_nz h0]; exact cut_zero
end
theorem rcA_ql {s : St} {g : Gr} {es es' : List Qe} {L : List (Int × Int × Int)} (h : ql es = ql es') : rcA s g es L = rcA s g es' L := by
  by_cases hn : RcGood s g (ql es)
  · rw [rcA_good hn, rcA_good (by rw [← h]; exact hn), h]
  · rw [rcA_bad hn, rcA_bad (by rw [← h]; exact hn)]
/-- it can be read there too -/
theorem RcP.go {p q : Nat → Prop} {w w' : World} {s : St} {g : Gr} {es : List Qe} {a : Ra} (h : RcP p w s g es a) (hg : GrownP q w w') (hq : ∀ i, q i → p i) : RcP p w' s g es a := fun w2 k => h w2 ((hg.mono hq).trans k)
end Go.Proofs.YtfipdoofgbjbjaaGreat
