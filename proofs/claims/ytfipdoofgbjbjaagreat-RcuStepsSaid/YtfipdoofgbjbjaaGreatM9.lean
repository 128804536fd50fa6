/- Walks and plain laws for this claim, part 9. No condition but sizes. -/
import Derived.Test.YtfipdoofgbjbjaaGreatM3
import Derived.Test.YtfipdoofgbjbjaaGreatM7
import Derived.Test.YtfipdoofgbjbjaaGreatM8
import Derived.Test.YtfipdoofgbjbjaaGreatM1
import Derived.Deep.DeepCutAuto
/- afterglowref14: call. No condition but sizes. -/
namespace Go.Proofs.YtfipdoofgbjbjaaGreat
open Go.RowKit
attribute [local go_sem] Oper.semAt_some
/-- what call hands back -/
def C14 (p : Nat → Prop) (w : World) (r : Int × St × Gr × Qs × List Int) (x : Ending) (w' : World) : Prop :=
  ∃ a es, x = .returned (.tuple #[rcv r.2.1 r.2.2.1 a, .int .i64 r.1]) ∧ ql es = r.2.2.2.1 ∧ a.nq = es.length ∧ RcP p w' r.2.1 r.2.2.1 es a ∧ Below w.heap.size w w'
theorem put_good {s : St} {g : Gr} {qs : Qs} {c : Nat} (x : Int) (hg : RcGood s g qs) (hc : c < qs.length) (hf : gNext g ≤ 2147483645) (hl : (qAt qs c).1.length < 16) :
    putF (qAt qs c).2 (qAt qs c).1 x (gNext g - g.dn) = ((qAt qs c).2, (qAt qs c).1 ++ [(gNext g, x)], 0) := by
  obtain ⟨⟨b1, b2, b3⟩, hlen, hq⟩ := hg
  obtain ⟨q1, q2, q3⟩ := hq _ (qAt_mem hc)
  have hn := gNext_le (g := g)
  have hak := b2.2.2.2.2.1
  unfold putF
  rw [if_neg (not_not_intro q1), if_neg (by omega), if_neg, if_neg (by omega)]
  · rw [q2, show g.dn + (gNext g - g.dn) = gNext g by omega]
  · rintro ⟨h1, h2⟩
    have hm : (qAt qs c).1[(qAt qs c).1.length - 1]'(by omega) ∈ (qAt qs c).1 := List.getElem_mem _
    have h3 := q3 _ hm
    unfold perAt at h2
    rw [List.getElem?_eq_getElem (by omega)] at h2
    simp only [Option.getD_some] at h2
    omega
theorem QeP.qr {p : Nat → Prop} {w : World} {x : Qe} (h : QeP p w x) : QeR w x := h w (.refl _ _)
theorem gAsk_ak {g : Gr} (h : gNext g ≤ 2147483645) (h2 : g.ak ≤ gNext g) : (gAsk g).ak = gNext g := by show max g.ak (gNext g) = _; omega
set_option maxRecDepth 100000 in
set_option maxHeartbeats 8000000 in
theorem rcall14_any (p : Nat → Prop) (s : St) (g : Gr) (es : List Qe) (a : Ra) (cp : Nat) (what : Int) (w : World) (h : RcP p w s g es a) (hp : ∀ i, p i → i < w.heap.size) (hcp : cp < es.length) (hnq : a.nq = es.length) (hg : RcGood s g (ql es)) :
    Calls Tryz.prog 36 #[rcv s g a, .int .i64 cp, .int .u64 what] w (C14 p w (opsA s g (ql es) [] [(3, (cp : Int), what)])) := by
  have HB := hid (Below.refl w.heap.size w); have HR := hid h.fresh; have HP := hid hp; have HC := hid hcp; have HNQ := hid hnq; have HGD := hid hg
  have HLQ := hid h.rcr.ql; have HGL := hid h.rcr.gl
  obtain ⟨r, hr⟩ : ∃ r, r = opsA s g (ql es) [] [(3, (cp : Int), what)] := ⟨_, rfl⟩
  have HCC := call_cases what hg (show cp < (ql es).length by rw [ql_len]; exact hcp)
  rw [← hr] at HCC ⊢
  clear hr
  obtain ⟨gn, hgn⟩ : ∃ gn, gn = gNext g := ⟨_, rfl⟩
  have HGN := hid hgn
  have HD := hid (show 0 ≤ g.dn ∧ g.dn ≤ 2147483645 from ⟨hg.1.2.1.2.2.1, by have := hg.1.2.1.small; omega⟩)
  have HN2 := hid (show gn ≤ g.dn + 2 ∧ g.dn + 1 ≤ gn by rw [hgn]; exact gNext_le)
  obtain ⟨x, hx⟩ : ∃ x, x = es[cp]?.getD zQe := ⟨_, rfl⟩
  have hxm : x ∈ es := by rw [hx, List.getElem?_eq_getElem hcp]; exact List.getElem_mem _
  have hqa : qAt (ql es) cp = (x.l, x.o) := by rw [hx]; unfold qAt ql; rw [List.getElem?_map, List.getElem?_eq_getElem hcp]; rfl
  have HX := hid (h.q_mem hxm).fresh
  have HQG := hid (hg.2.2 _ (qAt_mem (show cp < (ql es).length by rw [ql_len]; exact hcp))).1
  have HPG := hid (fun h1 h2 => put_good what hg (show cp < (ql es).length by rw [ql_len]; exact hcp) h1 h2)
  have HXE := hid hx
  rw [hqa] at HQG HPG HCC
  rw [← hgn] at HCC HPG
  dsimp only at HQG HPG HCC
  obtain ⟨xl, xo, xA, xn, xc⟩ := x
  dsimp only at HQG HPG HCC
  have HXN := hid (show xn = xl.length from ((h.q_mem hxm) w (.refl _ _)).1.len.symm)
  have HCN := hid (show cp < a.nq by omega)
  have HAK := hid (show g.ak ≤ gn by rw [hgn]; exact hg.1.2.1.2.2.2.2.1)
  clear h hp hcp hnq hg hqa hxm hx hgn
  have bx := below_box w (.cells (rcells s g a) 30)
  replace HR := hid (HR.out.step bx); replace HX := hid (HX.out.step bx); replace HB := hid (below_then HB.out bx)
  clear bx
  have P := hid (Blk.new w 30 (rcells s g a))
  have bx := below_box (w.alloc (.cells (rcells s g a) 30)) (.cells #[.int .i64 0, .slice none 0 0, .slice none 0 0, .int .i64 0, .int .i64 0, .bool false, .slice none 0 0, .slice none 0 0] 30)
  replace HR := hid (HR.out.step bx); replace HX := hid (HX.out.step bx); replace P := hid (P.out.step bx); replace HB := hid (below_then HB.out bx)
  clear bx
  have PZ := hid (Blk.new2 w 30 #[.int .i64 0, .slice none 0 0, .slice none 0 0, .int .i64 0, .int .i64 0, .bool false, .slice none 0 0, .slice none 0 0] (.cells (rcells s g a) 30))
  go_enter Tryz.func36, Tryz.ntmps36
  obtain ⟨y00, y01, y02, y03, y04, y05, y06, y07, yf0⟩ := P.out.cells8
  obtain ⟨y10, y11, y12, y13, y14, y15, y16, y17, yf1⟩ := PZ.out.cells8
  go_wp2_with fail
  clear y00 y01 y02 y03 y04 y05 y06 y07 yf0 y10 y11 y12 y13 y14 y15 y16 y17 yf1
  have hz0 := hid (show ((w.alloc (.cells (rcells s g a) 30)).alloc (.cells #[.int .i64 0, .slice none 0 0, .slice none 0 0, .int .i64 0, .int .i64 0, .bool false, .slice none 0 0, .slice none 0 0] 30)).heap.size = w.heap.size + 2 by simp)
  generalize (w.alloc (.cells (rcells s g a) 30)).alloc (.cells #[.int .i64 0, .slice none 0 0, .slice none 0 0, .int .i64 0, .int .i64 0, .bool false, .slice none 0 0, .slice none 0 0] 30) = W0 at *
  refine (rgask_any g a.D g.nd.length a.kd W0 HD.out).mono ?_
  rintro e w1 ⟨he, hb⟩
  rw [← HGN.out] at he
  have HS1 := hid (show w.heap.size + 2 ≤ w1.heap.size by have := hb.size; have := hz0.out; omega)
  replace HR := hid (HR.out.step hb); replace HX := hid (HX.out.step hb); replace P := hid (P.out.step hb); replace PZ := hid (PZ.out.step hb); replace HB := hid (below_then HB.out hb)
  clear hb hz0
  rcases Decidable.em (2147483645 < gn) with hbig | hbig
  ·skip
   rw [if_pos hbig] at he
   subst he
   have HRZ := hid (show r = (6, (0, [], []), zGr, [], []) by rcases HCC with h | h; exact h.2; exact absurd h.1 (by omega))
   clear HCC HPG hbig
   have bx := below_box w1 (.cells #[.int .i64 0, .int .i64 0, .bool false, .slice none 0 0] 27)
   replace HR := hid (HR.out.step bx); replace HX := hid (HX.out.step bx); replace P := hid (P.out.step bx); replace PZ := hid (PZ.out.step bx); replace HB := hid (below_then HB.out bx)
   clear bx
   have G8 := hid (Blk.new w1 27 #[.int .i64 0, .int .i64 0, .bool false, .slice none 0 0])
   obtain ⟨y00, y01, y02, y03, y04, y05, y06, y07, yf0⟩ := PZ.out.cells8
   go_wp2_with fail
   clear y00 y01 y02 y03 y04 y05 y06 y07 yf0
   generalize w1.alloc (.cells #[.int .i64 0, .int .i64 0, .bool false, .slice none 0 0] 27) = W2 at *
   have hbk0 : Blk (W2.setCell ⟨w.heap.size + 1, 0, none⟩ (.int .i64 0)) (w.heap.size + 1) 30 #[.int .i64 0, .slice none 0 0, .slice none 0 0, .int .i64 0, .int .i64 0, .bool false, .slice none 0 0, .slice none 0 0] := PZ.out.setCell 0 (.int .i64 0)
   have hbk1 : Blk ((W2.setCell ⟨w.heap.size + 1, 0, none⟩ (.int .i64 0)).setCell ⟨w.heap.size + 1, 1, none⟩ (.slice none 0 0)) (w.heap.size + 1) 30 #[.int .i64 0, .slice none 0 0, .slice none 0 0, .int .i64 0, .int .i64 0, .bool false, .slice none 0 0, .slice none 0 0] := hbk0.setCell 1 (.slice none 0 0)
   have hbk2 : Blk (((W2.setCell ⟨w.heap.size + 1, 0, none⟩ (.int .i64 0)).setCell ⟨w.heap.size + 1, 1, none⟩ (.slice none 0 0)).setCell ⟨w.heap.size + 1, 2, none⟩ (.slice none 0 0)) (w.heap.size + 1) 30 #[.int .i64 0, .slice none 0 0, .slice none 0 0, .int .i64 0, .int .i64 0, .bool false, .slice none 0 0, .slice none 0 0] := hbk1.setCell 2 (.slice none 0 0)
   have hbk3 : Blk ((((W2.setCell ⟨w.heap.size + 1, 0, none⟩ (.int .i64 0)).setCell ⟨w.heap.size + 1, 1, none⟩ (.slice none 0 0)).setCell ⟨w.heap.size + 1, 2, none⟩ (.slice none 0 0)).setCell ⟨w.heap.size + 1, 3, none⟩ (.int .i64 0)) (w.heap.size + 1) 30 #[.int .i64 0, .slice none 0 0, .slice none 0 0, .int .i64 0, .int .i64 0, .bool false, .slice none 0 0, .slice none 0 0] := hbk2.setCell 3 (.int .i64 0)
   have hbk4 : Blk (((((W2.setCell ⟨w.heap.size + 1, 0, none⟩ (.int .i64 0)).setCell ⟨w.heap.size + 1, 1, none⟩ (.slice none 0 0)).setCell ⟨w.heap.size + 1, 2, none⟩ (.slice none 0 0)).setCell ⟨w.heap.size + 1, 3, none⟩ (.int .i64 0)).setCell ⟨w.heap.size + 1, 4, none⟩ (.int .i64 0)) (w.heap.size + 1) 30 #[.int .i64 0, .slice none 0 0, .slice none 0 0, .int .i64 0, .int .i64 0, .bool false, .slice none 0 0, .slice none 0 0] := hbk3.setCell 4 (.int .i64 0)
   have hbk5 : Blk ((((((W2.setCell ⟨w.heap.size + 1, 0, none⟩ (.int .i64 0)).setCell ⟨w.heap.size + 1, 1, none⟩ (.slice none 0 0)).setCell ⟨w.heap.size + 1, 2, none⟩ (.slice none 0 0)).setCell ⟨w.heap.size + 1, 3, none⟩ (.int .i64 0)).setCell ⟨w.heap.size + 1, 4, none⟩ (.int .i64 0)).setCell ⟨w.heap.size + 1, 5, none⟩ (.bool false)) (w.heap.size + 1) 30 #[.int .i64 0, .slice none 0 0, .slice none 0 0, .int .i64 0, .int .i64 0, .bool false, .slice none 0 0, .slice none 0 0] := hbk4.setCell 5 (.bool false)
   have hbk6 : Blk (((((((W2.setCell ⟨w.heap.size + 1, 0, none⟩ (.int .i64 0)).setCell ⟨w.heap.size + 1, 1, none⟩ (.slice none 0 0)).setCell ⟨w.heap.size + 1, 2, none⟩ (.slice none 0 0)).setCell ⟨w.heap.size + 1, 3, none⟩ (.int .i64 0)).setCell ⟨w.heap.size + 1, 4, none⟩ (.int .i64 0)).setCell ⟨w.heap.size + 1, 5, none⟩ (.bool false)).setCell ⟨w.heap.size + 1, 6, none⟩ (.slice none 0 0)) (w.heap.size + 1) 30 #[.int .i64 0, .slice none 0 0, .slice none 0 0, .int .i64 0, .int .i64 0, .bool false, .slice none 0 0, .slice none 0 0] := hbk5.setCell 6 (.slice none 0 0)
   have hbk7 : Blk ((((((((W2.setCell ⟨w.heap.size + 1, 0, none⟩ (.int .i64 0)).setCell ⟨w.heap.size + 1, 1, none⟩ (.slice none 0 0)).setCell ⟨w.heap.size + 1, 2, none⟩ (.slice none 0 0)).setCell ⟨w.heap.size + 1, 3, none⟩ (.int .i64 0)).setCell ⟨w.heap.size + 1, 4, none⟩ (.int .i64 0)).setCell ⟨w.heap.size + 1, 5, none⟩ (.bool false)).setCell ⟨w.heap.size + 1, 6, none⟩ (.slice none 0 0)).setCell ⟨w.heap.size + 1, 7, none⟩ (.slice none 0 0)) (w.heap.size + 1) 30 #[.int .i64 0, .slice none 0 0, .slice none 0 0, .int .i64 0, .int .i64 0, .bool false, .slice none 0 0, .slice none 0 0] := hbk6.setCell 7 (.slice none 0 0)
   have hgr : W2.grownBy ((((((((W2.setCell ⟨w.heap.size + 1, 0, none⟩ (.int .i64 0)).setCell ⟨w.heap.size + 1, 1, none⟩ (.slice none 0 0)).setCell ⟨w.heap.size + 1, 2, none⟩ (.slice none 0 0)).setCell ⟨w.heap.size + 1, 3, none⟩ (.int .i64 0)).setCell ⟨w.heap.size + 1, 4, none⟩ (.int .i64 0)).setCell ⟨w.heap.size + 1, 5, none⟩ (.bool false)).setCell ⟨w.heap.size + 1, 6, none⟩ (.slice none 0 0)).setCell ⟨w.heap.size + 1, 7, none⟩ (.slice none 0 0)) (some (w.heap.size + 1)) := (grown_set (grown_set (grown_set (grown_set (grown_set (grown_set (grown_set (grown_set (World.grownBy.refl W2 (some (w.heap.size + 1))) 0 (.int .i64 0)) 1 (.slice none 0 0)) 2 (.slice none 0 0)) 3 (.int .i64 0)) 4 (.int .i64 0)) 5 (.bool false)) 6 (.slice none 0 0)) 7 (.slice none 0 0))
   replace PZ := hid hbk7
   clear hbk0 hbk1 hbk2 hbk3 hbk4 hbk5 hbk6 hbk7
   generalize (((((((W2.setCell ⟨w.heap.size + 1, 0, none⟩ (.int .i64 0)).setCell ⟨w.heap.size + 1, 1, none⟩ (.slice none 0 0)).setCell ⟨w.heap.size + 1, 2, none⟩ (.slice none 0 0)).setCell ⟨w.heap.size + 1, 3, none⟩ (.int .i64 0)).setCell ⟨w.heap.size + 1, 4, none⟩ (.int .i64 0)).setCell ⟨w.heap.size + 1, 5, none⟩ (.bool false)).setCell ⟨w.heap.size + 1, 6, none⟩ (.slice none 0 0)).setCell ⟨w.heap.size + 1, 7, none⟩ (.slice none 0 0) = W3 at *
   replace HB := hid (HB.out.grown hgr HB.out.size (fun r e => by cases e; omega))
   clear hgr
   obtain ⟨q0, q1, q2, q3, q4, q5, q6, q7, qf⟩ := PZ.out.cells8
   rw [HRZ.out]
   refine bodyPost_ret (v := .tuple #[rcv zSt zGr zRa, .int .i64 6]) (by simp [results, Tryz.results36, go_sem, q0, q1, q2, q3, q4, q5, q6, q7, zSt, zGr, zRa]) rfl ⟨zRa, [], rfl, rfl, rfl, RcP.zero _ _, HB.out⟩
  rw [if_neg hbig] at he
  subst he
  have bx := below_box w1 (.cells #[.int .i64 g.dn, .int .i64 (gAsk g).ak, .bool g.on, .slice a.D g.nd.length a.kd] 27)
  replace HR := hid (HR.out.step bx); replace HX := hid (HX.out.step bx); replace P := hid (P.out.step bx); replace PZ := hid (PZ.out.step bx); replace HB := hid (below_then HB.out bx)
  clear bx
  have G8 := hid (Blk.new w1 27 #[.int .i64 g.dn, .int .i64 (gAsk g).ak, .bool g.on, .slice a.D g.nd.length a.kd])
  obtain ⟨b, off, hQ, _, hbh, hc⟩ := HR.out.rcr.qs.row (by have := HCN.out; omega)
  have HROW := hid (show ∀ W', Below (w1.alloc (.cells #[.int .i64 g.dn, .int .i64 (gAsk g).ak, .bool g.on, .slice a.D g.nd.length a.kd] 27)).heap.size (w1.alloc (.cells #[.int .i64 g.dn, .int .i64 (gAsk g).ak, .bool g.on, .slice a.D g.nd.length a.kd] 27)) W' → W'.cell? ⟨b, off + cp * 2, none⟩ = some (.slice xA xn xc) ∧ W'.cell? ⟨b, off + cp * 2 + 1, none⟩ = some (.int .u64 xo) from fun W' hb => by
    obtain ⟨b', off', hQ', _, _, hc'⟩ := (HR.out.step hb).rcr.qs.row (by have := HCN.out; omega)
    rw [hQ] at hQ'; cases hQ'
    have h0 := hc' cp HCN.out 0 (by omega); have h1 := hc' cp HCN.out 1 (by omega)
    rw [← HXE.out] at h0 h1
    exact ⟨h0, h1⟩)
  have hci : (cp : Int) < (a.nq : Int) := by have := HCN.out; omega
  have hci2 : ¬ ((cp : Int) < 0) := by omega
  obtain ⟨f0, f1⟩ := HROW.out _ (.refl _ _)
  have P0 := hid (show Blk (w1.alloc (.cells #[.int .i64 g.dn, .int .i64 (gAsk g).ak, .bool g.on, .slice a.D g.nd.length a.kd] 27)) w.heap.size 30 #[.int .i64 s.1, .slice a.A a.n a.k, .slice a.B a.m a.d, .int .i64 g.dn, .int .i64 g.ak, .bool g.on, .slice a.D g.nd.length a.kd, .slice (some ⟨b, off, none⟩) a.nq a.kq] by have h := P.out; unfold rcells at h; rw [hQ] at h; exact h)
  clear hc hbh HXE
  rcases Decidable.em (xl.length = 16) with hfull | hfull
  ·skip
   have HRZ := hid (show r = (6, (0, [], []), zGr, [], []) by rcases HCC with h | h; exact h.2; exact absurd h.2.1 (by omega))
   obtain rfl : xn = 16 := by rw [HXN.out]; exact hfull
   clear HCC HPG hbig hfull
   obtain ⟨y00, y01, y02, y03, y04, y05, y06, y07, yf0⟩ := P0.out.cells8
   go_upto_region 3 with fail
   clear P0 f0 f1 hci hci2 y00 y01 y02 y03 y04 y05 y06 y07 yf0
   obtain ⟨y00, y01, y02, y03, y04, y05, y06, y07, yf0⟩ := PZ.out.cells8
   go_wp2_with fail
   clear y00 y01 y02 y03 y04 y05 y06 y07 yf0
   generalize w1.alloc (.cells #[.int .i64 g.dn, .int .i64 (gAsk g).ak, .bool g.on, .slice a.D g.nd.length a.kd] 27) = W2 at *
   have hbk0 : Blk (W2.setCell ⟨w.heap.size + 1, 0, none⟩ (.int .i64 0)) (w.heap.size + 1) 30 #[.int .i64 0, .slice none 0 0, .slice none 0 0, .int .i64 0, .int .i64 0, .bool false, .slice none 0 0, .slice none 0 0] := PZ.out.setCell 0 (.int .i64 0)
   have hbk1 : Blk ((W2.setCell ⟨w.heap.size + 1, 0, none⟩ (.int .i64 0)).setCell ⟨w.heap.size + 1, 1, none⟩ (.slice none 0 0)) (w.heap.size + 1) 30 #[.int .i64 0, .slice none 0 0, .slice none 0 0, .int .i64 0, .int .i64 0, .bool false, .slice none 0 0, .slice none 0 0] := hbk0.setCell 1 (.slice none 0 0)
   have hbk2 : Blk (((W2.setCell ⟨w.heap.size + 1, 0, none⟩ (.int .i64 0)).setCell ⟨w.heap.size + 1, 1, none⟩ (.slice none 0 0)).setCell ⟨w.heap.size + 1, 2, none⟩ (.slice none 0 0)) (w.heap.size + 1) 30 #[.int .i64 0, .slice none 0 0, .slice none 0 0, .int .i64 0, .int .i64 0, .bool false, .slice none 0 0, .slice none 0 0] := hbk1.setCell 2 (.slice none 0 0)
   have hbk3 : Blk ((((W2.setCell ⟨w.heap.size + 1, 0, none⟩ (.int .i64 0)).setCell ⟨w.heap.size + 1, 1, none⟩ (.slice none 0 0)).setCell ⟨w.heap.size + 1, 2, none⟩ (.slice none 0 0)).setCell ⟨w.heap.size + 1, 3, none⟩ (.int .i64 0)) (w.heap.size + 1) 30 #[.int .i64 0, .slice none 0 0, .slice none 0 0, .int .i64 0, .int .i64 0, .bool false, .slice none 0 0, .slice none 0 0] := hbk2.setCell 3 (.int .i64 0)
   have hbk4 : Blk (((((W2.setCell ⟨w.heap.size + 1, 0, none⟩ (.int .i64 0)).setCell ⟨w.heap.size + 1, 1, none⟩ (.slice none 0 0)).setCell ⟨w.heap.size + 1, 2, none⟩ (.slice none 0 0)).setCell ⟨w.heap.size + 1, 3, none⟩ (.int .i64 0)).setCell ⟨w.heap.size + 1, 4, none⟩ (.int .i64 0)) (w.heap.size + 1) 30 #[.int .i64 0, .slice none 0 0, .slice none 0 0, .int .i64 0, .int .i64 0, .bool false, .slice none 0 0, .slice none 0 0] := hbk3.setCell 4 (.int .i64 0)
   have hbk5 : Blk ((((((W2.setCell ⟨w.heap.size + 1, 0, none⟩ (.int .i64 0)).setCell ⟨w.heap.size + 1, 1, none⟩ (.slice none 0 0)).setCell ⟨w.heap.size + 1, 2, none⟩ (.slice none 0 0)).setCell ⟨w.heap.size + 1, 3, none⟩ (.int .i64 0)).setCell ⟨w.heap.size + 1, 4, none⟩ (.int .i64 0)).setCell ⟨w.heap.size + 1, 5, none⟩ (.bool false)) (w.heap.size + 1) 30 #[.int .i64 0, .slice none 0 0, .slice none 0 0, .int .i64 0, .int .i64 0, .bool false, .slice none 0 0, .slice none 0 0] := hbk4.setCell 5 (.bool false)
   have hbk6 : Blk (((((((W2.setCell ⟨w.heap.size + 1, 0, none⟩ (.int .i64 0)).setCell ⟨w.heap.size + 1, 1, none⟩ (.slice none 0 0)).setCell ⟨w.heap.size + 1, 2, none⟩ (.slice none 0 0)).setCell ⟨w.heap.size + 1, 3, none⟩ (.int .i64 0)).setCell ⟨w.heap.size + 1, 4, none⟩ (.int .i64 0)).setCell ⟨w.heap.size + 1, 5, none⟩ (.bool false)).setCell ⟨w.heap.size + 1, 6, none⟩ (.slice none 0 0)) (w.heap.size + 1) 30 #[.int .i64 0, .slice none 0 0, .slice none 0 0, .int .i64 0, .int .i64 0, .bool false, .slice none 0 0, .slice none 0 0] := hbk5.setCell 6 (.slice none 0 0)
   have hbk7 : Blk ((((((((W2.setCell ⟨w.heap.size + 1, 0, none⟩ (.int .i64 0)).setCell ⟨w.heap.size + 1, 1, none⟩ (.slice none 0 0)).setCell ⟨w.heap.size + 1, 2, none⟩ (.slice none 0 0)).setCell ⟨w.heap.size + 1, 3, none⟩ (.int .i64 0)).setCell ⟨w.heap.size + 1, 4, none⟩ (.int .i64 0)).setCell ⟨w.heap.size + 1, 5, none⟩ (.bool false)).setCell ⟨w.heap.size + 1, 6, none⟩ (.slice none 0 0)).setCell ⟨w.heap.size + 1, 7, none⟩ (.slice none 0 0)) (w.heap.size + 1) 30 #[.int .i64 0, .slice none 0 0, .slice none 0 0, .int .i64 0, .int .i64 0, .bool false, .slice none 0 0, .slice none 0 0] := hbk6.setCell 7 (.slice none 0 0)
   have hgr : W2.grownBy ((((((((W2.setCell ⟨w.heap.size + 1, 0, none⟩ (.int .i64 0)).setCell ⟨w.heap.size + 1, 1, none⟩ (.slice none 0 0)).setCell ⟨w.heap.size + 1, 2, none⟩ (.slice none 0 0)).setCell ⟨w.heap.size + 1, 3, none⟩ (.int .i64 0)).setCell ⟨w.heap.size + 1, 4, none⟩ (.int .i64 0)).setCell ⟨w.heap.size + 1, 5, none⟩ (.bool false)).setCell ⟨w.heap.size + 1, 6, none⟩ (.slice none 0 0)).setCell ⟨w.heap.size + 1, 7, none⟩ (.slice none 0 0)) (some (w.heap.size + 1)) := (grown_set (grown_set (grown_set (grown_set (grown_set (grown_set (grown_set (grown_set (World.grownBy.refl W2 (some (w.heap.size + 1))) 0 (.int .i64 0)) 1 (.slice none 0 0)) 2 (.slice none 0 0)) 3 (.int .i64 0)) 4 (.int .i64 0)) 5 (.bool false)) 6 (.slice none 0 0)) 7 (.slice none 0 0))
   replace PZ := hid hbk7
   clear hbk0 hbk1 hbk2 hbk3 hbk4 hbk5 hbk6 hbk7
   generalize (((((((W2.setCell ⟨w.heap.size + 1, 0, none⟩ (.int .i64 0)).setCell ⟨w.heap.size + 1, 1, none⟩ (.slice none 0 0)).setCell ⟨w.heap.size + 1, 2, none⟩ (.slice none 0 0)).setCell ⟨w.heap.size + 1, 3, none⟩ (.int .i64 0)).setCell ⟨w.heap.size + 1, 4, none⟩ (.int .i64 0)).setCell ⟨w.heap.size + 1, 5, none⟩ (.bool false)).setCell ⟨w.heap.size + 1, 6, none⟩ (.slice none 0 0)).setCell ⟨w.heap.size + 1, 7, none⟩ (.slice none 0 0) = W3 at *
   replace HB := hid (HB.out.grown hgr HB.out.size (fun r e => by cases e; omega))
   clear hgr
   obtain ⟨q0, q1, q2, q3, q4, q5, q6, q7, qf⟩ := PZ.out.cells8
   rw [HRZ.out]
   refine bodyPost_ret (v := .tuple #[rcv zSt zGr zRa, .int .i64 6]) (by simp [results, Tryz.results36, go_sem, q0, q1, q2, q3, q4, q5, q6, q7, zSt, zGr, zRa]) rfl ⟨zRa, [], rfl, rfl, rfl, RcP.zero _ _, HB.out⟩
  have HRZ := hid (show gn ≤ 2147483645 ∧ r = (0, s, gAsk g, (ql es).set cp (xl ++ [(gn, what)], xo), []) by rcases HCC with h | h; exact absurd h.1 (by omega); exact ⟨h.1, h.2.2⟩)
  have HE := hid (HPG.out (by omega) (by have := HQG.out.2.1; omega))
  have hxn : ¬ ((xn : Int) = 16) := by have := HXN.out; omega
  have hxb : ((xn : Int) == 16) = false := by simpa using hxn
  have hw1 : IntKind.i64.wrap (gn - g.dn) = gn - g.dn := by have := HN2.out; rw [IntKind.wrap_i64]; omega
  clear HCC HPG hfull hbig
  obtain ⟨y00, y01, y02, y03, y04, y05, y06, y07, yf0⟩ := P0.out.cells8
  go_upto_region 4 with fail
  clear f0 f1 hxn hxb y00 y01 y02 y03 y04 y05 y06 y07 yf0
  have hz2 := hid (show (w1.alloc (.cells #[.int .i64 g.dn, .int .i64 (gAsk g).ak, .bool g.on, .slice a.D g.nd.length a.kd] 27)).heap.size = w1.heap.size + 1 by simp)
  generalize w1.alloc (.cells #[.int .i64 g.dn, .int .i64 (gAsk g).ak, .bool g.on, .slice a.D g.nd.length a.kd] 27) = W2 at *
  obtain ⟨pp, hpp⟩ : ∃ pp : Nat → Prop, pp = fun i => p i ∨ (w.heap.size ≤ i ∧ i < w.heap.size + 2) := ⟨_, rfl⟩
  have HP2 := hid (show pp w.heap.size ∧ pp (w.heap.size + 1) by rw [hpp]; exact ⟨.inr (by omega), .inr (by omega)⟩)
  have HPI := hid (show ∀ i, p i → pp i by rw [hpp]; exact fun i hi => .inl hi)
  have HLT := hid (show ∀ i, pp i → i < W2.heap.size by rw [hpp]; exact fun i hi => by have := HS1.out; have := hz2.out; rcases hi with hi | hi; have := HP.out i hi; omega; omega)
  replace HR := hid ((HR.out.mono (q := pp) (fun i hi => by rw [hpp] at hi; exact hi.elim .inl (fun h => .inr h.1))).fresh)
  have HXR := hid ((HX.out.mono (q := pp) (fun i hi => by rw [hpp] at hi; exact hi.elim .inl (fun h => .inr h.1))).fresh)
  have HQ := hid (Below.refl W2.heap.size W2)
  have HG8 := hid G8.out.lt
  clear hpp P HX
  have bx := (Below.refl W2.heap.size W2).drew
  replace HR := hid (HR.out.step bx); replace HXR := hid (HXR.out.step bx); replace P0 := hid (P0.out.step bx); replace PZ := hid (PZ.out.step bx); replace G8 := hid (G8.out.step bx); replace HB := hid (below_then HB.out bx); replace HQ := hid (below_then HQ.out bx)
  clear bx
  have hszd := hid (show W2.drew.heap.size = W2.heap.size from rfl)
  refine wp_region_noPanic ?_
  refine wp_region_held_drew (S := (fun W' : World => W'.cell? ⟨w.heap.size, 0, none⟩ = some (.int .i64 s.1) ∧ W'.cell? ⟨w.heap.size, 1, none⟩ = some (.slice a.A a.n a.k) ∧ W'.cell? ⟨w.heap.size, 2, none⟩ = some (.slice a.B a.m a.d) ∧ W'.cell? ⟨w.heap.size, 3, none⟩ = some (.int .i64 g.dn) ∧ W'.cell? ⟨w.heap.size, 4, none⟩ = some (.int .i64 g.ak) ∧ W'.cell? ⟨w.heap.size, 5, none⟩ = some (.bool g.on) ∧ W'.cell? ⟨w.heap.size, 6, none⟩ = some (.slice a.D g.nd.length a.kd) ∧ W'.cell? ⟨w.heap.size, 7, none⟩ = some (.slice (some ⟨b, off, none⟩) a.nq a.kq) ∧ (W'.cell? ⟨b, off + cp * 2, none⟩ = some (.slice xA xn xc) ∧ W'.cell? ⟨b, off + cp * 2 + 1, none⟩ = some (.int .u64 xo)))) (by kernel_rfl) ⟨P0.out.cells8.1, P0.out.cells8.2.1, P0.out.cells8.2.2.1, P0.out.cells8.2.2.2.1, P0.out.cells8.2.2.2.2.1, P0.out.cells8.2.2.2.2.2.1, P0.out.cells8.2.2.2.2.2.2.1, P0.out.cells8.2.2.2.2.2.2.2.1, (HROW.out _ HQ.out)⟩ (fun hS => ?_)
  generalize W2.drew = Wd at *
  refine tk 0 hS ?_
  refine tk 1 hS ?_
  refine tk 2 hS ?_
  refine tk 3 hS ?_
  refine tk 4 hS ?_
  refine tk 5 hS ?_
  refine tk 6 hS ?_
  refine tk 7 hS ?_
  refine tk 9 hS ?_
  refine tk 10 hS ?_
  refine tk 11 hS ?_
  refine rdy [8, 17] (csy (fun K hK => ?_) (csy (fun K hK => ?_) AllReadyH.nil))
  ·skip
   go_simp
   refine (rgnext_any g a.D g.nd.length a.kd _ HD.out).mono ?_
   rintro e w3 ⟨rfl, hb⟩
   have hsz0 := hid (show Wd.heap.size ≤ w3.heap.size from hb.size)
   replace HR := hid (HR.out.step hb); replace HXR := hid (HXR.out.step hb); replace P0 := hid (P0.out.step hb); replace PZ := hid (PZ.out.step hb); replace G8 := hid (G8.out.step hb); replace HB := hid (below_then HB.out hb); replace HQ := hid (below_then HQ.out hb)
   clear hb
   rw [← HGN.out]
   go_wp2_with fail
   clear hS
   refine ky hK ⟨P0.out.cells8.1, P0.out.cells8.2.1, P0.out.cells8.2.2.1, P0.out.cells8.2.2.2.1, P0.out.cells8.2.2.2.2.1, P0.out.cells8.2.2.2.2.2.1, P0.out.cells8.2.2.2.2.2.2.1, P0.out.cells8.2.2.2.2.2.2.2.1, (HROW.out _ HQ.out)⟩ fun hS => ?_
   clear hK K
   refine tk 12 hS ?_
   refine rdy [13, 17] (csy (fun K hK => ?_) (csy (fun K hK => ?_) AllReadyH.nil))
   ·skip
    go_simp
    refine ((show Calls Tryz.prog 76 #[qv xA xn xc xo, .int .u64 what, .int .i64 (gn - g.dn)] _ (QPost _ (xo, xl ++ [(gn, what)], 0)) from HE.out ▸ qrput_any xA xn xc xo xl what (gn - g.dn) _ (HXR.out.qr).1 (Nat.le_trans (HXR.out.qr).2.2.1 (by omega)) (HXR.out.qr).2.2.2.1 (HXR.out.qr).2.1 HQG.out)).mono ?_
    rintro e w4 ⟨A2, n2, c2, rfl, hq2, hb, hn2⟩
    have hsz1 := hid (show w3.heap.size ≤ w4.heap.size from hb.size)
    replace HR := hid (HR.out.step hb); replace HXR := hid (HXR.out.step hb); replace P0 := hid (P0.out.step hb); replace PZ := hid (PZ.out.step hb); replace G8 := hid (G8.out.step hb); replace HB := hid (below_then HB.out hb); replace HQ := hid (below_then HQ.out hb)
    clear hb
    have HX2 := hid (show QeP pp w4 ⟨xl ++ [(gn, what)], xo, A2, n2, c2⟩ from fun w' k => by
      have h0 := HXR.out.qr
      exact ⟨hq2.forP (fun i hi => by have := hszd.out; have := hsz0.out; have := HLT.out i hi; omega) w' k, hn2, by have h1 := hq2.sm.len; have h3 := h0.2.2.1; have h4 := HXN.out; have h5 := HQG.out.2.1; rw [List.length_append] at h1; simp at h1; dsimp only at h3 h4 ⊢; omega, h0.2.2.2⟩)
    clear hq2 hn2
    replace HX2 := hid HX2.out.fresh
    go_wp2_with fail
    clear hS
    refine ky hK ⟨P0.out.cells8.1, P0.out.cells8.2.1, P0.out.cells8.2.2.1, P0.out.cells8.2.2.2.1, P0.out.cells8.2.2.2.2.1, P0.out.cells8.2.2.2.2.2.1, P0.out.cells8.2.2.2.2.2.2.1, P0.out.cells8.2.2.2.2.2.2.2.1, (HROW.out _ HQ.out)⟩ fun hS => ?_
    clear hK K
    refine tk 14 hS ?_
    refine tk 15 hS ?_
    refine tk 16 hS ?_
    refine rdy [17] (csy (fun K hK => ?_) AllReadyH.nil)
    go_simp
    refine named_alloc ?_
    intro Wa17 hbk hb hsz
    have hsz2 := hid hsz
    replace HR := hid (HR.out.step hb); replace HXR := hid (HXR.out.step hb); replace P0 := hid (P0.out.step hb); replace PZ := hid (PZ.out.step hb); replace G8 := hid (G8.out.step hb); replace HX2 := hid (HX2.out.step hb); replace HB := hid (below_then HB.out hb); replace HQ := hid (below_then HQ.out hb)
    have PQ := hid hbk
    clear hb hbk hsz
    clear hS
    refine ky hK ⟨P0.out.cells8.1, P0.out.cells8.2.1, P0.out.cells8.2.2.1, P0.out.cells8.2.2.2.1, P0.out.cells8.2.2.2.2.1, P0.out.cells8.2.2.2.2.2.1, P0.out.cells8.2.2.2.2.2.2.1, P0.out.cells8.2.2.2.2.2.2.2.1, (HROW.out _ HQ.out)⟩ fun hS => ?_
    clear hK K
    refine rdy [18] (csy (fun K hK => ?_) AllReadyH.nil)
    obtain ⟨y00, y01, yf0⟩ := PQ.out.cells2
    go_simp
    clear y00 y01 yf0
    refine named_store2 PQ.out ?_
    intro Ws18 hbk hgr hsz
    have hsz3 := hid hsz
    clear hsz
    replace HR := hid (HR.out.turn hgr (.inr (by have := hszd.out; have := hsz0.out; have := hsz1.out; have := hsz2.out; have := hsz3.out; have := hz2.out; have := HS1.out; omega))); replace HX2 := hid (HX2.out.turn hgr (.inr (by have := hszd.out; have := hsz0.out; have := hsz1.out; have := hsz2.out; have := hsz3.out; have := hz2.out; have := HS1.out; omega))); replace HXR := hid (HXR.out.turn hgr (.inr (by have := hszd.out; have := hsz0.out; have := hsz1.out; have := hsz2.out; have := hsz3.out; have := hz2.out; have := HS1.out; omega)))
    replace P0 := hid (P0.out.grown hgr (by have := hszd.out; have := hsz0.out; have := hsz1.out; have := hsz2.out; have := hsz3.out; have := hz2.out; have := HS1.out; simp <;> omega)); replace PZ := hid (PZ.out.grown hgr (by have := hszd.out; have := hsz0.out; have := hsz1.out; have := hsz2.out; have := hsz3.out; have := hz2.out; have := HS1.out; simp <;> omega)); replace G8 := hid (G8.out.grown hgr (by have := hszd.out; have := hsz0.out; have := hsz1.out; have := hsz2.out; have := hsz3.out; have := hz2.out; have := HS1.out; simp <;> omega))
    replace HB := hid (HB.out.grown hgr HB.out.size (fun r e => by cases e; have := hszd.out; have := hsz0.out; have := hsz1.out; have := hsz2.out; have := hsz3.out; have := hz2.out; have := HS1.out; omega)); replace HQ := hid (HQ.out.grown hgr HQ.out.size (fun r e => by cases e; have := hszd.out; have := hsz0.out; have := hsz1.out; have := hsz2.out; have := hsz3.out; have := hz2.out; have := HS1.out; omega))
    replace PQ := hid hbk
    clear hbk hgr
    clear hS
    refine ky hK ⟨P0.out.cells8.1, P0.out.cells8.2.1, P0.out.cells8.2.2.1, P0.out.cells8.2.2.2.1, P0.out.cells8.2.2.2.2.1, P0.out.cells8.2.2.2.2.2.1, P0.out.cells8.2.2.2.2.2.2.1, P0.out.cells8.2.2.2.2.2.2.2.1, (HROW.out _ HQ.out)⟩ fun hS => ?_
    clear hK K
    refine tk 19 hS ?_
    refine wpAnyH_done (by kernel_rfl) ?_ _
    refine NoPanic.normal ?_
    clear hS
    obtain ⟨y00, y01, y02, y03, yf0⟩ := G8.out.cells4
    obtain ⟨y10, y11, y12, y13, y14, y15, y16, y17, yf1⟩ := P0.out.cells8
    go_upto_region 8 with fail
    clear y10 y11 y12 y13 y14 y15 y16 y17 y00 y01 y02 y03 yf0 yf1
    have hbk0 : Blk (Ws18.setCell ⟨w.heap.size, 3, none⟩ (.int .i64 g.dn)) (w.heap.size) 30 #[.int .i64 s.1, .slice a.A a.n a.k, .slice a.B a.m a.d, .int .i64 g.dn, .int .i64 g.ak, .bool g.on, .slice a.D g.nd.length a.kd, .slice (some ⟨b, off, none⟩) a.nq a.kq] := P0.out.setCell 3 (.int .i64 g.dn)
    have hbk1 : Blk ((Ws18.setCell ⟨w.heap.size, 3, none⟩ (.int .i64 g.dn)).setCell ⟨w.heap.size, 4, none⟩ (.int .i64 (gAsk g).ak)) (w.heap.size) 30 #[.int .i64 s.1, .slice a.A a.n a.k, .slice a.B a.m a.d, .int .i64 g.dn, .int .i64 (gAsk g).ak, .bool g.on, .slice a.D g.nd.length a.kd, .slice (some ⟨b, off, none⟩) a.nq a.kq] := hbk0.setCell 4 (.int .i64 (gAsk g).ak)
    have hbk2 : Blk (((Ws18.setCell ⟨w.heap.size, 3, none⟩ (.int .i64 g.dn)).setCell ⟨w.heap.size, 4, none⟩ (.int .i64 (gAsk g).ak)).setCell ⟨w.heap.size, 5, none⟩ (.bool g.on)) (w.heap.size) 30 #[.int .i64 s.1, .slice a.A a.n a.k, .slice a.B a.m a.d, .int .i64 g.dn, .int .i64 (gAsk g).ak, .bool g.on, .slice a.D g.nd.length a.kd, .slice (some ⟨b, off, none⟩) a.nq a.kq] := hbk1.setCell 5 (.bool g.on)
    have hbk3 : Blk ((((Ws18.setCell ⟨w.heap.size, 3, none⟩ (.int .i64 g.dn)).setCell ⟨w.heap.size, 4, none⟩ (.int .i64 (gAsk g).ak)).setCell ⟨w.heap.size, 5, none⟩ (.bool g.on)).setCell ⟨w.heap.size, 6, none⟩ (.slice a.D g.nd.length a.kd)) (w.heap.size) 30 #[.int .i64 s.1, .slice a.A a.n a.k, .slice a.B a.m a.d, .int .i64 g.dn, .int .i64 (gAsk g).ak, .bool g.on, .slice a.D g.nd.length a.kd, .slice (some ⟨b, off, none⟩) a.nq a.kq] := hbk2.setCell 6 (.slice a.D g.nd.length a.kd)
    have hgr : Ws18.grownBy ((((Ws18.setCell ⟨w.heap.size, 3, none⟩ (.int .i64 g.dn)).setCell ⟨w.heap.size, 4, none⟩ (.int .i64 (gAsk g).ak)).setCell ⟨w.heap.size, 5, none⟩ (.bool g.on)).setCell ⟨w.heap.size, 6, none⟩ (.slice a.D g.nd.length a.kd)) (some (w.heap.size)) := (grown_set (grown_set (grown_set (grown_set (World.grownBy.refl Ws18 (some (w.heap.size))) 3 (.int .i64 g.dn)) 4 (.int .i64 (gAsk g).ak)) 5 (.bool g.on)) 6 (.slice a.D g.nd.length a.kd))
    replace P0 := hid hbk3
    clear hbk0 hbk1 hbk2 hbk3
    generalize (((Ws18.setCell ⟨w.heap.size, 3, none⟩ (.int .i64 g.dn)).setCell ⟨w.heap.size, 4, none⟩ (.int .i64 (gAsk g).ak)).setCell ⟨w.heap.size, 5, none⟩ (.bool g.on)).setCell ⟨w.heap.size, 6, none⟩ (.slice a.D g.nd.length a.kd) = w7 at *
    replace PZ := hid (PZ.out.grown hgr (by simp)); replace PQ := hid (PQ.out.grown hgr (by have := hszd.out; have := hsz0.out; have := hsz1.out; have := hsz2.out; have := hsz3.out; have := hz2.out; have := HS1.out; simp <;> omega))
    have HRG := hid (show RcP pp w7 s (gAsk g) es a from ((HR.out.turn hgr (.inl HP2.out.1)).mono (q := pp) (fun i hi => .inl hi)).setG (g' := gAsk g) (D := a.D) (kd := a.kd) (fun w' k => ((HR.out.turn hgr (.inl HP2.out.1)).mono (q := pp) (fun i hi => .inl hi) w' k).gd) HGL.out (by rw [gAsk_ak (show gNext g ≤ 2147483645 by rw [← HGN.out]; exact HRZ.out.1) (by rw [← HGN.out]; exact HAK.out), ← HGN.out]; have := HRZ.out.1; have := HD.out; show g.dn ≤ _ ∧ _; omega))
    have HXF := hid ((HX2.out.turn hgr (.inl HP2.out.1)).mono (q := pp) (fun i hi => .inl hi))
    replace HB := hid (HB.out.grown hgr HB.out.size (fun r e => by cases e; omega))
    have HS7 := hid (show W2.heap.size ≤ w7.heap.size by have := hgr.size; have := hszd.out; have := hsz0.out; have := hsz1.out; have := hsz2.out; have := hsz3.out; have := hz2.out; have := HS1.out; omega)
    have P2 := hid (show Blk w7 w.heap.size 30 (rcells s (gAsk g) a) by have h := P0.out; unfold rcells; rw [hQ]; exact h)
    clear hgr P0 HR HX2 hQ HXR
    obtain ⟨y00, y01, y02, y03, y04, y05, y06, y07, yf0⟩ := P2.out.cells8
    obtain ⟨y10, y11, yf1⟩ := PQ.out.cells2
    go_wp2_with fail
    clear y10 y11 yf1 P2 PQ y00 y01 y02 y03 y04 y05 y06 y07 yf0
    refine (rwith14_any pp s (gAsk g) es a cp ⟨xl ++ [(gn, what)], xo, A2, n2, c2⟩ w7 HRG.out (fun i hi => by have := HLT.out i hi; have := HS7.out; omega) HXF.out HC.out HNQ.out).mono ?_
    rintro e w8 ⟨a2, es2, rfl, hqs, hnq, hR, hb⟩
    replace PZ := hid (PZ.out.step hb); replace HB := hid (below_then HB.out hb)
    have HRR := hid hR; have HQS := hid hqs; have HN8 := hid hnq
    clear hqs hnq hR hb HRG HXF
    obtain ⟨y00, y01, y02, y03, y04, y05, y06, y07, yf0⟩ := PZ.out.cells8
    go_wp2_with fail
    clear y00 y01 y02 y03 y04 y05 y06 y07 yf0
    have hbk0 : Blk (w8.setCell ⟨w.heap.size + 1, 0, none⟩ (.int .i64 s.1)) (w.heap.size + 1) 30 #[.int .i64 s.1, .slice none 0 0, .slice none 0 0, .int .i64 0, .int .i64 0, .bool false, .slice none 0 0, .slice none 0 0] := PZ.out.setCell 0 (.int .i64 s.1)
    have hbk1 : Blk ((w8.setCell ⟨w.heap.size + 1, 0, none⟩ (.int .i64 s.1)).setCell ⟨w.heap.size + 1, 1, none⟩ (.slice a2.A a2.n a2.k)) (w.heap.size + 1) 30 #[.int .i64 s.1, .slice a2.A a2.n a2.k, .slice none 0 0, .int .i64 0, .int .i64 0, .bool false, .slice none 0 0, .slice none 0 0] := hbk0.setCell 1 (.slice a2.A a2.n a2.k)
    have hbk2 : Blk (((w8.setCell ⟨w.heap.size + 1, 0, none⟩ (.int .i64 s.1)).setCell ⟨w.heap.size + 1, 1, none⟩ (.slice a2.A a2.n a2.k)).setCell ⟨w.heap.size + 1, 2, none⟩ (.slice a2.B a2.m a2.d)) (w.heap.size + 1) 30 #[.int .i64 s.1, .slice a2.A a2.n a2.k, .slice a2.B a2.m a2.d, .int .i64 0, .int .i64 0, .bool false, .slice none 0 0, .slice none 0 0] := hbk1.setCell 2 (.slice a2.B a2.m a2.d)
    have hbk3 : Blk ((((w8.setCell ⟨w.heap.size + 1, 0, none⟩ (.int .i64 s.1)).setCell ⟨w.heap.size + 1, 1, none⟩ (.slice a2.A a2.n a2.k)).setCell ⟨w.heap.size + 1, 2, none⟩ (.slice a2.B a2.m a2.d)).setCell ⟨w.heap.size + 1, 3, none⟩ (.int .i64 (gAsk g).dn)) (w.heap.size + 1) 30 #[.int .i64 s.1, .slice a2.A a2.n a2.k, .slice a2.B a2.m a2.d, .int .i64 (gAsk g).dn, .int .i64 0, .bool false, .slice none 0 0, .slice none 0 0] := hbk2.setCell 3 (.int .i64 (gAsk g).dn)
    have hbk4 : Blk (((((w8.setCell ⟨w.heap.size + 1, 0, none⟩ (.int .i64 s.1)).setCell ⟨w.heap.size + 1, 1, none⟩ (.slice a2.A a2.n a2.k)).setCell ⟨w.heap.size + 1, 2, none⟩ (.slice a2.B a2.m a2.d)).setCell ⟨w.heap.size + 1, 3, none⟩ (.int .i64 (gAsk g).dn)).setCell ⟨w.heap.size + 1, 4, none⟩ (.int .i64 (gAsk g).ak)) (w.heap.size + 1) 30 #[.int .i64 s.1, .slice a2.A a2.n a2.k, .slice a2.B a2.m a2.d, .int .i64 (gAsk g).dn, .int .i64 (gAsk g).ak, .bool false, .slice none 0 0, .slice none 0 0] := hbk3.setCell 4 (.int .i64 (gAsk g).ak)
    have hbk5 : Blk ((((((w8.setCell ⟨w.heap.size + 1, 0, none⟩ (.int .i64 s.1)).setCell ⟨w.heap.size + 1, 1, none⟩ (.slice a2.A a2.n a2.k)).setCell ⟨w.heap.size + 1, 2, none⟩ (.slice a2.B a2.m a2.d)).setCell ⟨w.heap.size + 1, 3, none⟩ (.int .i64 (gAsk g).dn)).setCell ⟨w.heap.size + 1, 4, none⟩ (.int .i64 (gAsk g).ak)).setCell ⟨w.heap.size + 1, 5, none⟩ (.bool (gAsk g).on)) (w.heap.size + 1) 30 #[.int .i64 s.1, .slice a2.A a2.n a2.k, .slice a2.B a2.m a2.d, .int .i64 (gAsk g).dn, .int .i64 (gAsk g).ak, .bool (gAsk g).on, .slice none 0 0, .slice none 0 0] := hbk4.setCell 5 (.bool (gAsk g).on)
    have hbk6 : Blk (((((((w8.setCell ⟨w.heap.size + 1, 0, none⟩ (.int .i64 s.1)).setCell ⟨w.heap.size + 1, 1, none⟩ (.slice a2.A a2.n a2.k)).setCell ⟨w.heap.size + 1, 2, none⟩ (.slice a2.B a2.m a2.d)).setCell ⟨w.heap.size + 1, 3, none⟩ (.int .i64 (gAsk g).dn)).setCell ⟨w.heap.size + 1, 4, none⟩ (.int .i64 (gAsk g).ak)).setCell ⟨w.heap.size + 1, 5, none⟩ (.bool (gAsk g).on)).setCell ⟨w.heap.size + 1, 6, none⟩ (.slice a2.D (gAsk g).nd.length a2.kd)) (w.heap.size + 1) 30 #[.int .i64 s.1, .slice a2.A a2.n a2.k, .slice a2.B a2.m a2.d, .int .i64 (gAsk g).dn, .int .i64 (gAsk g).ak, .bool (gAsk g).on, .slice a2.D (gAsk g).nd.length a2.kd, .slice none 0 0] := hbk5.setCell 6 (.slice a2.D (gAsk g).nd.length a2.kd)
    have hbk7 : Blk ((((((((w8.setCell ⟨w.heap.size + 1, 0, none⟩ (.int .i64 s.1)).setCell ⟨w.heap.size + 1, 1, none⟩ (.slice a2.A a2.n a2.k)).setCell ⟨w.heap.size + 1, 2, none⟩ (.slice a2.B a2.m a2.d)).setCell ⟨w.heap.size + 1, 3, none⟩ (.int .i64 (gAsk g).dn)).setCell ⟨w.heap.size + 1, 4, none⟩ (.int .i64 (gAsk g).ak)).setCell ⟨w.heap.size + 1, 5, none⟩ (.bool (gAsk g).on)).setCell ⟨w.heap.size + 1, 6, none⟩ (.slice a2.D (gAsk g).nd.length a2.kd)).setCell ⟨w.heap.size + 1, 7, none⟩ (.slice a2.Q a2.nq a2.kq)) (w.heap.size + 1) 30 #[.int .i64 s.1, .slice a2.A a2.n a2.k, .slice a2.B a2.m a2.d, .int .i64 (gAsk g).dn, .int .i64 (gAsk g).ak, .bool (gAsk g).on, .slice a2.D (gAsk g).nd.length a2.kd, .slice a2.Q a2.nq a2.kq] := hbk6.setCell 7 (.slice a2.Q a2.nq a2.kq)
    have hgr : w8.grownBy ((((((((w8.setCell ⟨w.heap.size + 1, 0, none⟩ (.int .i64 s.1)).setCell ⟨w.heap.size + 1, 1, none⟩ (.slice a2.A a2.n a2.k)).setCell ⟨w.heap.size + 1, 2, none⟩ (.slice a2.B a2.m a2.d)).setCell ⟨w.heap.size + 1, 3, none⟩ (.int .i64 (gAsk g).dn)).setCell ⟨w.heap.size + 1, 4, none⟩ (.int .i64 (gAsk g).ak)).setCell ⟨w.heap.size + 1, 5, none⟩ (.bool (gAsk g).on)).setCell ⟨w.heap.size + 1, 6, none⟩ (.slice a2.D (gAsk g).nd.length a2.kd)).setCell ⟨w.heap.size + 1, 7, none⟩ (.slice a2.Q a2.nq a2.kq)) (some (w.heap.size + 1)) := (grown_set (grown_set (grown_set (grown_set (grown_set (grown_set (grown_set (grown_set (World.grownBy.refl w8 (some (w.heap.size + 1))) 0 (.int .i64 s.1)) 1 (.slice a2.A a2.n a2.k)) 2 (.slice a2.B a2.m a2.d)) 3 (.int .i64 (gAsk g).dn)) 4 (.int .i64 (gAsk g).ak)) 5 (.bool (gAsk g).on)) 6 (.slice a2.D (gAsk g).nd.length a2.kd)) 7 (.slice a2.Q a2.nq a2.kq))
    replace PZ := hid hbk7
    clear hbk0 hbk1 hbk2 hbk3 hbk4 hbk5 hbk6 hbk7
    generalize (((((((w8.setCell ⟨w.heap.size + 1, 0, none⟩ (.int .i64 s.1)).setCell ⟨w.heap.size + 1, 1, none⟩ (.slice a2.A a2.n a2.k)).setCell ⟨w.heap.size + 1, 2, none⟩ (.slice a2.B a2.m a2.d)).setCell ⟨w.heap.size + 1, 3, none⟩ (.int .i64 (gAsk g).dn)).setCell ⟨w.heap.size + 1, 4, none⟩ (.int .i64 (gAsk g).ak)).setCell ⟨w.heap.size + 1, 5, none⟩ (.bool (gAsk g).on)).setCell ⟨w.heap.size + 1, 6, none⟩ (.slice a2.D (gAsk g).nd.length a2.kd)).setCell ⟨w.heap.size + 1, 7, none⟩ (.slice a2.Q a2.nq a2.kq) = w9 at *
    replace HRR := hid (HRR.out.turn hgr HP2.out.2); replace HB := hid (HB.out.grown hgr HB.out.size (fun r e => by cases e; omega))
    clear hgr
    obtain ⟨q0, q1, q2, q3, q4, q5, q6, q7, qf⟩ := PZ.out.cells8
    rw [HRZ.out.2]
    refine bodyPost_ret (v := .tuple #[rcv s (gAsk g) a2, .int .i64 0]) (by simp [results, Tryz.results36, go_sem, q0, q1, q2, q3, q4, q5, q6, q7]) rfl ⟨a2, es2, rfl, HQS.out, HN8.out, HRR.out.mono HPI.out, HB.out⟩
   ·skip
    go_simp
    refine named_alloc ?_
    intro Wa17 hbk hb hsz
    have hsz1 := hid hsz
    replace HR := hid (HR.out.step hb); replace HXR := hid (HXR.out.step hb); replace P0 := hid (P0.out.step hb); replace PZ := hid (PZ.out.step hb); replace G8 := hid (G8.out.step hb); replace HB := hid (below_then HB.out hb); replace HQ := hid (below_then HQ.out hb)
    have PQ := hid hbk
    clear hb hbk hsz
    clear hS
    refine ky hK ⟨P0.out.cells8.1, P0.out.cells8.2.1, P0.out.cells8.2.2.1, P0.out.cells8.2.2.2.1, P0.out.cells8.2.2.2.2.1, P0.out.cells8.2.2.2.2.2.1, P0.out.cells8.2.2.2.2.2.2.1, P0.out.cells8.2.2.2.2.2.2.2.1, (HROW.out _ HQ.out)⟩ fun hS => ?_
    clear hK K
    refine rdy [13] (csy (fun K hK => ?_) AllReadyH.nil)
    go_simp
    refine ((show Calls Tryz.prog 76 #[qv xA xn xc xo, .int .u64 what, .int .i64 (gn - g.dn)] _ (QPost _ (xo, xl ++ [(gn, what)], 0)) from HE.out ▸ qrput_any xA xn xc xo xl what (gn - g.dn) _ (HXR.out.qr).1 (Nat.le_trans (HXR.out.qr).2.2.1 (by omega)) (HXR.out.qr).2.2.2.1 (HXR.out.qr).2.1 HQG.out)).mono ?_
    rintro e w4 ⟨A2, n2, c2, rfl, hq2, hb, hn2⟩
    have hsz2 := hid (show Wa17.heap.size ≤ w4.heap.size from hb.size)
    replace HR := hid (HR.out.step hb); replace HXR := hid (HXR.out.step hb); replace P0 := hid (P0.out.step hb); replace PZ := hid (PZ.out.step hb); replace G8 := hid (G8.out.step hb); replace PQ := hid (PQ.out.step hb); replace HB := hid (below_then HB.out hb); replace HQ := hid (below_then HQ.out hb)
    clear hb
    have HX2 := hid (show QeP (fun i => pp i ∨ W2.heap.size ≤ i ∧ i < Wa17.heap.size) w4 ⟨xl ++ [(gn, what)], xo, A2, n2, c2⟩ from fun w' k => by
      have h0 := HXR.out.qr
      exact ⟨hq2.forP (fun i hi => by have := hszd.out; have := hsz0.out; have := hsz1.out; have := HLT.out; rcases hi with hi | hi; have := HLT.out i hi; omega; omega) w' k, hn2, by have h1 := hq2.sm.len; have h3 := h0.2.2.1; have h4 := HXN.out; have h5 := HQG.out.2.1; rw [List.length_append] at h1; simp at h1; dsimp only at h3 h4 ⊢; omega, h0.2.2.2⟩)
    clear hq2 hn2
    go_wp2_with fail
    clear hS
    refine ky hK ⟨P0.out.cells8.1, P0.out.cells8.2.1, P0.out.cells8.2.2.1, P0.out.cells8.2.2.2.1, P0.out.cells8.2.2.2.2.1, P0.out.cells8.2.2.2.2.2.1, P0.out.cells8.2.2.2.2.2.2.1, P0.out.cells8.2.2.2.2.2.2.2.1, (HROW.out _ HQ.out)⟩ fun hS => ?_
    clear hK K
    refine tk 14 hS ?_
    refine tk 15 hS ?_
    refine tk 16 hS ?_
    refine rdy [18] (csy (fun K hK => ?_) AllReadyH.nil)
    obtain ⟨y00, y01, yf0⟩ := PQ.out.cells2
    go_simp
    clear y00 y01 yf0
    refine named_store2 PQ.out ?_
    intro Ws18 hbk hgr hsz
    have hsz3 := hid hsz
    clear hsz
    replace HR := hid (HR.out.turn hgr (.inr (by have := hszd.out; have := hsz0.out; have := hsz1.out; have := hsz2.out; have := hsz3.out; have := hz2.out; have := HS1.out; omega))); replace HX2 := hid (HX2.out.turn hgr (.inr (by have := hszd.out; have := hsz0.out; have := hsz1.out; have := hsz2.out; have := hsz3.out; have := hz2.out; have := HS1.out; omega))); replace HXR := hid (HXR.out.turn hgr (.inr (by have := hszd.out; have := hsz0.out; have := hsz1.out; have := hsz2.out; have := hsz3.out; have := hz2.out; have := HS1.out; omega)))
    replace P0 := hid (P0.out.grown hgr (by have := hszd.out; have := hsz0.out; have := hsz1.out; have := hsz2.out; have := hsz3.out; have := hz2.out; have := HS1.out; simp <;> omega)); replace PZ := hid (PZ.out.grown hgr (by have := hszd.out; have := hsz0.out; have := hsz1.out; have := hsz2.out; have := hsz3.out; have := hz2.out; have := HS1.out; simp <;> omega)); replace G8 := hid (G8.out.grown hgr (by have := hszd.out; have := hsz0.out; have := hsz1.out; have := hsz2.out; have := hsz3.out; have := hz2.out; have := HS1.out; simp <;> omega))
    replace HB := hid (HB.out.grown hgr HB.out.size (fun r e => by cases e; have := hszd.out; have := hsz0.out; have := hsz1.out; have := hsz2.out; have := hsz3.out; have := hz2.out; have := HS1.out; omega)); replace HQ := hid (HQ.out.grown hgr HQ.out.size (fun r e => by cases e; have := hszd.out; have := hsz0.out; have := hsz1.out; have := hsz2.out; have := hsz3.out; have := hz2.out; have := HS1.out; omega))
    replace PQ := hid hbk
    clear hbk hgr
    clear hS
    refine ky hK ⟨P0.out.cells8.1, P0.out.cells8.2.1, P0.out.cells8.2.2.1, P0.out.cells8.2.2.2.1, P0.out.cells8.2.2.2.2.1, P0.out.cells8.2.2.2.2.2.1, P0.out.cells8.2.2.2.2.2.2.1, P0.out.cells8.2.2.2.2.2.2.2.1, (HROW.out _ HQ.out)⟩ fun hS => ?_
    clear hK K
    refine tk 19 hS ?_
    refine wpAnyH_done (by kernel_rfl) ?_ _
    refine NoPanic.normal ?_
    clear hS
    obtain ⟨y00, y01, y02, y03, yf0⟩ := G8.out.cells4
    obtain ⟨y10, y11, y12, y13, y14, y15, y16, y17, yf1⟩ := P0.out.cells8
    go_upto_region 8 with fail
    clear y10 y11 y12 y13 y14 y15 y16 y17 y00 y01 y02 y03 yf0 yf1
    have hbk0 : Blk (Ws18.setCell ⟨w.heap.size, 3, none⟩ (.int .i64 g.dn)) (w.heap.size) 30 #[.int .i64 s.1, .slice a.A a.n a.k, .slice a.B a.m a.d, .int .i64 g.dn, .int .i64 g.ak, .bool g.on, .slice a.D g.nd.length a.kd, .slice (some ⟨b, off, none⟩) a.nq a.kq] := P0.out.setCell 3 (.int .i64 g.dn)
    have hbk1 : Blk ((Ws18.setCell ⟨w.heap.size, 3, none⟩ (.int .i64 g.dn)).setCell ⟨w.heap.size, 4, none⟩ (.int .i64 (gAsk g).ak)) (w.heap.size) 30 #[.int .i64 s.1, .slice a.A a.n a.k, .slice a.B a.m a.d, .int .i64 g.dn, .int .i64 (gAsk g).ak, .bool g.on, .slice a.D g.nd.length a.kd, .slice (some ⟨b, off, none⟩) a.nq a.kq] := hbk0.setCell 4 (.int .i64 (gAsk g).ak)
    have hbk2 : Blk (((Ws18.setCell ⟨w.heap.size, 3, none⟩ (.int .i64 g.dn)).setCell ⟨w.heap.size, 4, none⟩ (.int .i64 (gAsk g).ak)).setCell ⟨w.heap.size, 5, none⟩ (.bool g.on)) (w.heap.size) 30 #[.int .i64 s.1, .slice a.A a.n a.k, .slice a.B a.m a.d, .int .i64 g.dn, .int .i64 (gAsk g).ak, .bool g.on, .slice a.D g.nd.length a.kd, .slice (some ⟨b, off, none⟩) a.nq a.kq] := hbk1.setCell 5 (.bool g.on)
    have hbk3 : Blk ((((Ws18.setCell ⟨w.heap.size, 3, none⟩ (.int .i64 g.dn)).setCell ⟨w.heap.size, 4, none⟩ (.int .i64 (gAsk g).ak)).setCell ⟨w.heap.size, 5, none⟩ (.bool g.on)).setCell ⟨w.heap.size, 6, none⟩ (.slice a.D g.nd.length a.kd)) (w.heap.size) 30 #[.int .i64 s.1, .slice a.A a.n a.k, .slice a.B a.m a.d, .int .i64 g.dn, .int .i64 (gAsk g).ak, .bool g.on, .slice a.D g.nd.length a.kd, .slice (some ⟨b, off, none⟩) a.nq a.kq] := hbk2.setCell 6 (.slice a.D g.nd.length a.kd)
    have hgr : Ws18.grownBy ((((Ws18.setCell ⟨w.heap.size, 3, none⟩ (.int .i64 g.dn)).setCell ⟨w.heap.size, 4, none⟩ (.int .i64 (gAsk g).ak)).setCell ⟨w.heap.size, 5, none⟩ (.bool g.on)).setCell ⟨w.heap.size, 6, none⟩ (.slice a.D g.nd.length a.kd)) (some (w.heap.size)) := (grown_set (grown_set (grown_set (grown_set (World.grownBy.refl Ws18 (some (w.heap.size))) 3 (.int .i64 g.dn)) 4 (.int .i64 (gAsk g).ak)) 5 (.bool g.on)) 6 (.slice a.D g.nd.length a.kd))
    replace P0 := hid hbk3
    clear hbk0 hbk1 hbk2 hbk3
    generalize (((Ws18.setCell ⟨w.heap.size, 3, none⟩ (.int .i64 g.dn)).setCell ⟨w.heap.size, 4, none⟩ (.int .i64 (gAsk g).ak)).setCell ⟨w.heap.size, 5, none⟩ (.bool g.on)).setCell ⟨w.heap.size, 6, none⟩ (.slice a.D g.nd.length a.kd) = w7 at *
    replace PZ := hid (PZ.out.grown hgr (by simp)); replace PQ := hid (PQ.out.grown hgr (by have := hszd.out; have := hsz0.out; have := hsz1.out; have := hsz2.out; have := hsz3.out; have := hz2.out; have := HS1.out; simp <;> omega))
    have HRG := hid (show RcP pp w7 s (gAsk g) es a from ((HR.out.turn hgr (.inl HP2.out.1)).mono (q := pp) (fun i hi => .inl hi)).setG (g' := gAsk g) (D := a.D) (kd := a.kd) (fun w' k => ((HR.out.turn hgr (.inl HP2.out.1)).mono (q := pp) (fun i hi => .inl hi) w' k).gd) HGL.out (by rw [gAsk_ak (show gNext g ≤ 2147483645 by rw [← HGN.out]; exact HRZ.out.1) (by rw [← HGN.out]; exact HAK.out), ← HGN.out]; have := HRZ.out.1; have := HD.out; show g.dn ≤ _ ∧ _; omega))
    have HXF := hid ((HX2.out.turn hgr (.inl HP2.out.1)).mono (q := pp) (fun i hi => .inl hi))
    replace HB := hid (HB.out.grown hgr HB.out.size (fun r e => by cases e; omega))
    have HS7 := hid (show W2.heap.size ≤ w7.heap.size by have := hgr.size; have := hszd.out; have := hsz0.out; have := hsz1.out; have := hsz2.out; have := hsz3.out; have := hz2.out; have := HS1.out; omega)
    have P2 := hid (show Blk w7 w.heap.size 30 (rcells s (gAsk g) a) by have h := P0.out; unfold rcells; rw [hQ]; exact h)
    clear hgr P0 HR HX2 hQ HXR
    obtain ⟨y00, y01, y02, y03, y04, y05, y06, y07, yf0⟩ := P2.out.cells8
    obtain ⟨y10, y11, yf1⟩ := PQ.out.cells2
    go_wp2_with fail
    clear y10 y11 yf1 P2 PQ y00 y01 y02 y03 y04 y05 y06 y07 yf0
    refine (rwith14_any pp s (gAsk g) es a cp ⟨xl ++ [(gn, what)], xo, A2, n2, c2⟩ w7 HRG.out (fun i hi => by have := HLT.out i hi; have := HS7.out; omega) HXF.out HC.out HNQ.out).mono ?_
    rintro e w8 ⟨a2, es2, rfl, hqs, hnq, hR, hb⟩
    replace PZ := hid (PZ.out.step hb); replace HB := hid (below_then HB.out hb)
    have HRR := hid hR; have HQS := hid hqs; have HN8 := hid hnq
    clear hqs hnq hR hb HRG HXF
    obtain ⟨y00, y01, y02, y03, y04, y05, y06, y07, yf0⟩ := PZ.out.cells8
    go_wp2_with fail
    clear y00 y01 y02 y03 y04 y05 y06 y07 yf0
    have hbk0 : Blk (w8.setCell ⟨w.heap.size + 1, 0, none⟩ (.int .i64 s.1)) (w.heap.size + 1) 30 #[.int .i64 s.1, .slice none 0 0, .slice none 0 0, .int .i64 0, .int .i64 0, .bool false, .slice none 0 0, .slice none 0 0] := PZ.out.setCell 0 (.int .i64 s.1)
    have hbk1 : Blk ((w8.setCell ⟨w.heap.size + 1, 0, none⟩ (.int .i64 s.1)).setCell ⟨w.heap.size + 1, 1, none⟩ (.slice a2.A a2.n a2.k)) (w.heap.size + 1) 30 #[.int .i64 s.1, .slice a2.A a2.n a2.k, .slice none 0 0, .int .i64 0, .int .i64 0, .bool false, .slice none 0 0, .slice none 0 0] := hbk0.setCell 1 (.slice a2.A a2.n a2.k)
    have hbk2 : Blk (((w8.setCell ⟨w.heap.size + 1, 0, none⟩ (.int .i64 s.1)).setCell ⟨w.heap.size + 1, 1, none⟩ (.slice a2.A a2.n a2.k)).setCell ⟨w.heap.size + 1, 2, none⟩ (.slice a2.B a2.m a2.d)) (w.heap.size + 1) 30 #[.int .i64 s.1, .slice a2.A a2.n a2.k, .slice a2.B a2.m a2.d, .int .i64 0, .int .i64 0, .bool false, .slice none 0 0, .slice none 0 0] := hbk1.setCell 2 (.slice a2.B a2.m a2.d)
    have hbk3 : Blk ((((w8.setCell ⟨w.heap.size + 1, 0, none⟩ (.int .i64 s.1)).setCell ⟨w.heap.size + 1, 1, none⟩ (.slice a2.A a2.n a2.k)).setCell ⟨w.heap.size + 1, 2, none⟩ (.slice a2.B a2.m a2.d)).setCell ⟨w.heap.size + 1, 3, none⟩ (.int .i64 (gAsk g).dn)) (w.heap.size + 1) 30 #[.int .i64 s.1, .slice a2.A a2.n a2.k, .slice a2.B a2.m a2.d, .int .i64 (gAsk g).dn, .int .i64 0, .bool false, .slice none 0 0, .slice none 0 0] := hbk2.setCell 3 (.int .i64 (gAsk g).dn)
    have hbk4 : Blk (((((w8.setCell ⟨w.heap.size + 1, 0, none⟩ (.int .i64 s.1)).setCell ⟨w.heap.size + 1, 1, none⟩ (.slice a2.A a2.n a2.k)).setCell ⟨w.heap.size + 1, 2, none⟩ (.slice a2.B a2.m a2.d)).setCell ⟨w.heap.size + 1, 3, none⟩ (.int .i64 (gAsk g).dn)).setCell ⟨w.heap.size + 1, 4, none⟩ (.int .i64 (gAsk g).ak)) (w.heap.size + 1) 30 #[.int .i64 s.1, .slice a2.A a2.n a2.k, .slice a2.B a2.m a2.d, .int .i64 (gAsk g).dn, .int .i64 (gAsk g).ak, .bool false, .slice none 0 0, .slice none 0 0] := hbk3.setCell 4 (.int .i64 (gAsk g).ak)
    have hbk5 : Blk ((((((w8.setCell ⟨w.heap.size + 1, 0, none⟩ (.int .i64 s.1)).setCell ⟨w.heap.size + 1, 1, none⟩ (.slice a2.A a2.n a2.k)).setCell ⟨w.heap.size + 1, 2, none⟩ (.slice a2.B a2.m a2.d)).setCell ⟨w.heap.size + 1, 3, none⟩ (.int .i64 (gAsk g).dn)).setCell ⟨w.heap.size + 1, 4, none⟩ (.int .i64 (gAsk g).ak)).setCell ⟨w.heap.size + 1, 5, none⟩ (.bool (gAsk g).on)) (w.heap.size + 1) 30 #[.int .i64 s.1, .slice a2.A a2.n a2.k, .slice a2.B a2.m a2.d, .int .i64 (gAsk g).dn, .int .i64 (gAsk g).ak, .bool (gAsk g).on, .slice none 0 0, .slice none 0 0] := hbk4.setCell 5 (.bool (gAsk g).on)
    have hbk6 : Blk (((((((w8.setCell ⟨w.heap.size + 1, 0, none⟩ (.int .i64 s.1)).setCell ⟨w.heap.size + 1, 1, none⟩ (.slice a2.A a2.n a2.k)).setCell ⟨w.heap.size + 1, 2, none⟩ (.slice a2.B a2.m a2.d)).setCell ⟨w.heap.size + 1, 3, none⟩ (.int .i64 (gAsk g).dn)).setCell ⟨w.heap.size + 1, 4, none⟩ (.int .i64 (gAsk g).ak)).setCell ⟨w.heap.size + 1, 5, none⟩ (.bool (gAsk g).on)).setCell ⟨w.heap.size + 1, 6, none⟩ (.slice a2.D (gAsk g).nd.length a2.kd)) (w.heap.size + 1) 30 #[.int .i64 s.1, .slice a2.A a2.n a2.k, .slice a2.B a2.m a2.d, .int .i64 (gAsk g).dn, .int .i64 (gAsk g).ak, .bool (gAsk g).on, .slice a2.D (gAsk g).nd.length a2.kd, .slice none 0 0] := hbk5.setCell 6 (.slice a2.D (gAsk g).nd.length a2.kd)
    have hbk7 : Blk ((((((((w8.setCell ⟨w.heap.size + 1, 0, none⟩ (.int .i64 s.1)).setCell ⟨w.heap.size + 1, 1, none⟩ (.slice a2.A a2.n a2.k)).setCell ⟨w.heap.size + 1, 2, none⟩ (.slice a2.B a2.m a2.d)).setCell ⟨w.heap.size + 1, 3, none⟩ (.int .i64 (gAsk g).dn)).setCell ⟨w.heap.size + 1, 4, none⟩ (.int .i64 (gAsk g).ak)).setCell ⟨w.heap.size + 1, 5, none⟩ (.bool (gAsk g).on)).setCell ⟨w.heap.size + 1, 6, none⟩ (.slice a2.D (gAsk g).nd.length a2.kd)).setCell ⟨w.heap.size + 1, 7, none⟩ (.slice a2.Q a2.nq a2.kq)) (w.heap.size + 1) 30 #[.int .i64 s.1, .slice a2.A a2.n a2.k, .slice a2.B a2.m a2.d, .int .i64 (gAsk g).dn, .int .i64 (gAsk g).ak, .bool (gAsk g).on, .slice a2.D (gAsk g).nd.length a2.kd, .slice a2.Q a2.nq a2.kq] := hbk6.setCell 7 (.slice a2.Q a2.nq a2.kq)
    have hgr : w8.grownBy ((((((((w8.setCell ⟨w.heap.size + 1, 0, none⟩ (.int .i64 s.1)).setCell ⟨w.heap.size + 1, 1, none⟩ (.slice a2.A a2.n a2.k)).setCell ⟨w.heap.size + 1, 2, none⟩ (.slice a2.B a2.m a2.d)).setCell ⟨w.heap.size + 1, 3, none⟩ (.int .i64 (gAsk g).dn)).setCell ⟨w.heap.size + 1, 4, none⟩ (.int .i64 (gAsk g).ak)).setCell ⟨w.heap.size + 1, 5, none⟩ (.bool (gAsk g).on)).setCell ⟨w.heap.size + 1, 6, none⟩ (.slice a2.D (gAsk g).nd.length a2.kd)).setCell ⟨w.heap.size + 1, 7, none⟩ (.slice a2.Q a2.nq a2.kq)) (some (w.heap.size + 1)) := (grown_set (grown_set (grown_set (grown_set (grown_set (grown_set (grown_set (grown_set (World.grownBy.refl w8 (some (w.heap.size + 1))) 0 (.int .i64 s.1)) 1 (.slice a2.A a2.n a2.k)) 2 (.slice a2.B a2.m a2.d)) 3 (.int .i64 (gAsk g).dn)) 4 (.int .i64 (gAsk g).ak)) 5 (.bool (gAsk g).on)) 6 (.slice a2.D (gAsk g).nd.length a2.kd)) 7 (.slice a2.Q a2.nq a2.kq))
    replace PZ := hid hbk7
    clear hbk0 hbk1 hbk2 hbk3 hbk4 hbk5 hbk6 hbk7
    generalize (((((((w8.setCell ⟨w.heap.size + 1, 0, none⟩ (.int .i64 s.1)).setCell ⟨w.heap.size + 1, 1, none⟩ (.slice a2.A a2.n a2.k)).setCell ⟨w.heap.size + 1, 2, none⟩ (.slice a2.B a2.m a2.d)).setCell ⟨w.heap.size + 1, 3, none⟩ (.int .i64 (gAsk g).dn)).setCell ⟨w.heap.size + 1, 4, none⟩ (.int .i64 (gAsk g).ak)).setCell ⟨w.heap.size + 1, 5, none⟩ (.bool (gAsk g).on)).setCell ⟨w.heap.size + 1, 6, none⟩ (.slice a2.D (gAsk g).nd.length a2.kd)).setCell ⟨w.heap.size + 1, 7, none⟩ (.slice a2.Q a2.nq a2.kq) = w9 at *
    replace HRR := hid (HRR.out.turn hgr HP2.out.2); replace HB := hid (HB.out.grown hgr HB.out.size (fun r e => by cases e; omega))
    clear hgr
    obtain ⟨q0, q1, q2, q3, q4, q5, q6, q7, qf⟩ := PZ.out.cells8
    rw [HRZ.out.2]
    refine bodyPost_ret (v := .tuple #[rcv s (gAsk g) a2, .int .i64 0]) (by simp [results, Tryz.results36, go_sem, q0, q1, q2, q3, q4, q5, q6, q7]) rfl ⟨a2, es2, rfl, HQS.out, HN8.out, HRR.out.mono HPI.out, HB.out⟩
  ·skip
   go_simp
   refine named_alloc ?_
   intro Wa17 hbk hb hsz
   have hsz0 := hid hsz
   replace HR := hid (HR.out.step hb); replace HXR := hid (HXR.out.step hb); replace P0 := hid (P0.out.step hb); replace PZ := hid (PZ.out.step hb); replace G8 := hid (G8.out.step hb); replace HB := hid (below_then HB.out hb); replace HQ := hid (below_then HQ.out hb)
   have PQ := hid hbk
   clear hb hbk hsz
   clear hS
   refine ky hK ⟨P0.out.cells8.1, P0.out.cells8.2.1, P0.out.cells8.2.2.1, P0.out.cells8.2.2.2.1, P0.out.cells8.2.2.2.2.1, P0.out.cells8.2.2.2.2.2.1, P0.out.cells8.2.2.2.2.2.2.1, P0.out.cells8.2.2.2.2.2.2.2.1, (HROW.out _ HQ.out)⟩ fun hS => ?_
   clear hK K
   refine rdy [8] (csy (fun K hK => ?_) AllReadyH.nil)
   go_simp
   refine (rgnext_any g a.D g.nd.length a.kd _ HD.out).mono ?_
   rintro e w3 ⟨rfl, hb⟩
   have hsz1 := hid (show Wa17.heap.size ≤ w3.heap.size from hb.size)
   replace HR := hid (HR.out.step hb); replace HXR := hid (HXR.out.step hb); replace P0 := hid (P0.out.step hb); replace PZ := hid (PZ.out.step hb); replace G8 := hid (G8.out.step hb); replace PQ := hid (PQ.out.step hb); replace HB := hid (below_then HB.out hb); replace HQ := hid (below_then HQ.out hb)
   clear hb
   rw [← HGN.out]
   go_wp2_with fail
   clear hS
   refine ky hK ⟨P0.out.cells8.1, P0.out.cells8.2.1, P0.out.cells8.2.2.1, P0.out.cells8.2.2.2.1, P0.out.cells8.2.2.2.2.1, P0.out.cells8.2.2.2.2.2.1, P0.out.cells8.2.2.2.2.2.2.1, P0.out.cells8.2.2.2.2.2.2.2.1, (HROW.out _ HQ.out)⟩ fun hS => ?_
   clear hK K
   refine tk 12 hS ?_
   refine rdy [13] (csy (fun K hK => ?_) AllReadyH.nil)
   go_simp
   refine ((show Calls Tryz.prog 76 #[qv xA xn xc xo, .int .u64 what, .int .i64 (gn - g.dn)] _ (QPost _ (xo, xl ++ [(gn, what)], 0)) from HE.out ▸ qrput_any xA xn xc xo xl what (gn - g.dn) _ (HXR.out.qr).1 (Nat.le_trans (HXR.out.qr).2.2.1 (by omega)) (HXR.out.qr).2.2.2.1 (HXR.out.qr).2.1 HQG.out)).mono ?_
   rintro e w4 ⟨A2, n2, c2, rfl, hq2, hb, hn2⟩
   have hsz2 := hid (show w3.heap.size ≤ w4.heap.size from hb.size)
   replace HR := hid (HR.out.step hb); replace HXR := hid (HXR.out.step hb); replace P0 := hid (P0.out.step hb); replace PZ := hid (PZ.out.step hb); replace G8 := hid (G8.out.step hb); replace PQ := hid (PQ.out.step hb); replace HB := hid (below_then HB.out hb); replace HQ := hid (below_then HQ.out hb)
   clear hb
   have HX2 := hid (show QeP (fun i => pp i ∨ W2.heap.size ≤ i ∧ i < w3.heap.size) w4 ⟨xl ++ [(gn, what)], xo, A2, n2, c2⟩ from fun w' k => by
     have h0 := HXR.out.qr
     exact ⟨hq2.forP (fun i hi => by have := hszd.out; have := hsz0.out; have := hsz1.out; have := HLT.out; rcases hi with hi | hi; have := HLT.out i hi; omega; omega) w' k, hn2, by have h1 := hq2.sm.len; have h3 := h0.2.2.1; have h4 := HXN.out; have h5 := HQG.out.2.1; rw [List.length_append] at h1; simp at h1; dsimp only at h3 h4 ⊢; omega, h0.2.2.2⟩)
   clear hq2 hn2
   go_wp2_with fail
   clear hS
   refine ky hK ⟨P0.out.cells8.1, P0.out.cells8.2.1, P0.out.cells8.2.2.1, P0.out.cells8.2.2.2.1, P0.out.cells8.2.2.2.2.1, P0.out.cells8.2.2.2.2.2.1, P0.out.cells8.2.2.2.2.2.2.1, P0.out.cells8.2.2.2.2.2.2.2.1, (HROW.out _ HQ.out)⟩ fun hS => ?_
   clear hK K
   refine tk 14 hS ?_
   refine tk 15 hS ?_
   refine tk 16 hS ?_
   refine rdy [18] (csy (fun K hK => ?_) AllReadyH.nil)
   obtain ⟨y00, y01, yf0⟩ := PQ.out.cells2
   go_simp
   clear y00 y01 yf0
   refine named_store2 PQ.out ?_
   intro Ws18 hbk hgr hsz
   have hsz3 := hid hsz
   clear hsz
   replace HR := hid (HR.out.turn hgr (.inr (by have := hszd.out; have := hsz0.out; have := hsz1.out; have := hsz2.out; have := hsz3.out; have := hz2.out; have := HS1.out; omega))); replace HX2 := hid (HX2.out.turn hgr (.inr (by have := hszd.out; have := hsz0.out; have := hsz1.out; have := hsz2.out; have := hsz3.out; have := hz2.out; have := HS1.out; omega))); replace HXR := hid (HXR.out.turn hgr (.inr (by have := hszd.out; have := hsz0.out; have := hsz1.out; have := hsz2.out; have := hsz3.out; have := hz2.out; have := HS1.out; omega)))
   replace P0 := hid (P0.out.grown hgr (by have := hszd.out; have := hsz0.out; have := hsz1.out; have := hsz2.out; have := hsz3.out; have := hz2.out; have := HS1.out; simp <;> omega)); replace PZ := hid (PZ.out.grown hgr (by have := hszd.out; have := hsz0.out; have := hsz1.out; have := hsz2.out; have := hsz3.out; have := hz2.out; have := HS1.out; simp <;> omega)); replace G8 := hid (G8.out.grown hgr (by have := hszd.out; have := hsz0.out; have := hsz1.out; have := hsz2.out; have := hsz3.out; have := hz2.out; have := HS1.out; simp <;> omega))
   replace HB := hid (HB.out.grown hgr HB.out.size (fun r e => by cases e; have := hszd.out; have := hsz0.out; have := hsz1.out; have := hsz2.out; have := hsz3.out; have := hz2.out; have := HS1.out; omega)); replace HQ := hid (HQ.out.grown hgr HQ.out.size (fun r e => by cases e; have := hszd.out; have := hsz0.out; have := hsz1.out; have := hsz2.out; have := hsz3.out; have := hz2.out; have := HS1.out; omega))
   replace PQ := hid hbk
   clear hbk hgr
   clear hS
   refine ky hK ⟨P0.out.cells8.1, P0.out.cells8.2.1, P0.out.cells8.2.2.1, P0.out.cells8.2.2.2.1, P0.out.cells8.2.2.2.2.1, P0.out.cells8.2.2.2.2.2.1, P0.out.cells8.2.2.2.2.2.2.1, P0.out.cells8.2.2.2.2.2.2.2.1, (HROW.out _ HQ.out)⟩ fun hS => ?_
   clear hK K
   refine tk 19 hS ?_
   refine wpAnyH_done (by kernel_rfl) ?_ _
   refine NoPanic.normal ?_
   clear hS
   obtain ⟨y00, y01, y02, y03, yf0⟩ := G8.out.cells4
   obtain ⟨y10, y11, y12, y13, y14, y15, y16, y17, yf1⟩ := P0.out.cells8
   go_upto_region 8 with fail
   clear y10 y11 y12 y13 y14 y15 y16 y17 y00 y01 y02 y03 yf0 yf1
   have hbk0 : Blk (Ws18.setCell ⟨w.heap.size, 3, none⟩ (.int .i64 g.dn)) (w.heap.size) 30 #[.int .i64 s.1, .slice a.A a.n a.k, .slice a.B a.m a.d, .int .i64 g.dn, .int .i64 g.ak, .bool g.on, .slice a.D g.nd.length a.kd, .slice (some ⟨b, off, none⟩) a.nq a.kq] := P0.out.setCell 3 (.int .i64 g.dn)
   have hbk1 : Blk ((Ws18.setCell ⟨w.heap.size, 3, none⟩ (.int .i64 g.dn)).setCell ⟨w.heap.size, 4, none⟩ (.int .i64 (gAsk g).ak)) (w.heap.size) 30 #[.int .i64 s.1, .slice a.A a.n a.k, .slice a.B a.m a.d, .int .i64 g.dn, .int .i64 (gAsk g).ak, .bool g.on, .slice a.D g.nd.length a.kd, .slice (some ⟨b, off, none⟩) a.nq a.kq] := hbk0.setCell 4 (.int .i64 (gAsk g).ak)
   have hbk2 : Blk (((Ws18.setCell ⟨w.heap.size, 3, none⟩ (.int .i64 g.dn)).setCell ⟨w.heap.size, 4, none⟩ (.int .i64 (gAsk g).ak)).setCell ⟨w.heap.size, 5, none⟩ (.bool g.on)) (w.heap.size) 30 #[.int .i64 s.1, .slice a.A a.n a.k, .slice a.B a.m a.d, .int .i64 g.dn, .int .i64 (gAsk g).ak, .bool g.on, .slice a.D g.nd.length a.kd, .slice (some ⟨b, off, none⟩) a.nq a.kq] := hbk1.setCell 5 (.bool g.on)
   have hbk3 : Blk ((((Ws18.setCell ⟨w.heap.size, 3, none⟩ (.int .i64 g.dn)).setCell ⟨w.heap.size, 4, none⟩ (.int .i64 (gAsk g).ak)).setCell ⟨w.heap.size, 5, none⟩ (.bool g.on)).setCell ⟨w.heap.size, 6, none⟩ (.slice a.D g.nd.length a.kd)) (w.heap.size) 30 #[.int .i64 s.1, .slice a.A a.n a.k, .slice a.B a.m a.d, .int .i64 g.dn, .int .i64 (gAsk g).ak, .bool g.on, .slice a.D g.nd.length a.kd, .slice (some ⟨b, off, none⟩) a.nq a.kq] := hbk2.setCell 6 (.slice a.D g.nd.length a.kd)
   have hgr : Ws18.grownBy ((((Ws18.setCell ⟨w.heap.size, 3, none⟩ (.int .i64 g.dn)).setCell ⟨w.heap.size, 4, none⟩ (.int .i64 (gAsk g).ak)).setCell ⟨w.heap.size, 5, none⟩ (.bool g.on)).setCell ⟨w.heap.size, 6, none⟩ (.slice a.D g.nd.length a.kd)) (some (w.heap.size)) := (grown_set (grown_set (grown_set (grown_set (World.grownBy.refl Ws18 (some (w.heap.size))) 3 (.int .i64 g.dn)) 4 (.int .i64 (gAsk g).ak)) 5 (.bool g.on)) 6 (.slice a.D g.nd.length a.kd))
   replace P0 := hid hbk3
   clear hbk0 hbk1 hbk2 hbk3
   generalize (((Ws18.setCell ⟨w.heap.size, 3, none⟩ (.int .i64 g.dn)).setCell ⟨w.heap.size, 4, none⟩ (.int .i64 (gAsk g).ak)).setCell ⟨w.heap.size, 5, none⟩ (.bool g.on)).setCell ⟨w.heap.size, 6, none⟩ (.slice a.D g.nd.length a.kd) = w7 at *
   replace PZ := hid (PZ.out.grown hgr (by simp)); replace PQ := hid (PQ.out.grown hgr (by have := hszd.out; have := hsz0.out; have := hsz1.out; have := hsz2.out; have := hsz3.out; have := hz2.out; have := HS1.out; simp <;> omega))
   have HRG := hid (show RcP pp w7 s (gAsk g) es a from ((HR.out.turn hgr (.inl HP2.out.1)).mono (q := pp) (fun i hi => .inl hi)).setG (g' := gAsk g) (D := a.D) (kd := a.kd) (fun w' k => ((HR.out.turn hgr (.inl HP2.out.1)).mono (q := pp) (fun i hi => .inl hi) w' k).gd) HGL.out (by rw [gAsk_ak (show gNext g ≤ 2147483645 by rw [← HGN.out]; exact HRZ.out.1) (by rw [← HGN.out]; exact HAK.out), ← HGN.out]; have := HRZ.out.1; have := HD.out; show g.dn ≤ _ ∧ _; omega))
   have HXF := hid ((HX2.out.turn hgr (.inl HP2.out.1)).mono (q := pp) (fun i hi => .inl hi))
   replace HB := hid (HB.out.grown hgr HB.out.size (fun r e => by cases e; omega))
   have HS7 := hid (show W2.heap.size ≤ w7.heap.size by have := hgr.size; have := hszd.out; have := hsz0.out; have := hsz1.out; have := hsz2.out; have := hsz3.out; have := hz2.out; have := HS1.out; omega)
   have P2 := hid (show Blk w7 w.heap.size 30 (rcells s (gAsk g) a) by have h := P0.out; unfold rcells; rw [hQ]; exact h)
   clear hgr P0 HR HX2 hQ HXR
   obtain ⟨y00, y01, y02, y03, y04, y05, y06, y07, yf0⟩ := P2.out.cells8
   obtain ⟨y10, y11, yf1⟩ := PQ.out.cells2
   go_wp2_with fail
   clear y10 y11 yf1 P2 PQ y00 y01 y02 y03 y04 y05 y06 y07 yf0
   refine (rwith14_any pp s (gAsk g) es a cp ⟨xl ++ [(gn, what)], xo, A2, n2, c2⟩ w7 HRG.out (fun i hi => by have := HLT.out i hi; have := HS7.out; omega) HXF.out HC.out HNQ.out).mono ?_
   rintro e w8 ⟨a2, es2, rfl, hqs, hnq, hR, hb⟩
   replace PZ := hid (PZ.out.step hb); replace HB := hid (below_then HB.out hb)
   have HRR := hid hR; have HQS := hid hqs; have HN8 := hid hnq
   clear hqs hnq hR hb HRG HXF
   obtain ⟨y00, y01, y02, y03, y04, y05, y06, y07, yf0⟩ := PZ.out.cells8
   go_wp2_with fail
   clear y00 y01 y02 y03 y04 y05 y06 y07 yf0
   have hbk0 : Blk (w8.setCell ⟨w.heap.size + 1, 0, none⟩ (.int .i64 s.1)) (w.heap.size + 1) 30 #[.int .i64 s.1, .slice none 0 0, .slice none 0 0, .int .i64 0, .int .i64 0, .bool false, .slice none 0 0, .slice none 0 0] := PZ.out.setCell 0 (.int .i64 s.1)
   have hbk1 : Blk ((w8.setCell ⟨w.heap.size + 1, 0, none⟩ (.int .i64 s.1)).setCell ⟨w.heap.size + 1, 1, none⟩ (.slice a2.A a2.n a2.k)) (w.heap.size + 1) 30 #[.int .i64 s.1, .slice a2.A a2.n a2.k, .slice none 0 0, .int .i64 0, .int .i64 0, .bool false, .slice none 0 0, .slice none 0 0] := hbk0.setCell 1 (.slice a2.A a2.n a2.k)
   have hbk2 : Blk (((w8.setCell ⟨w.heap.size + 1, 0, none⟩ (.int .i64 s.1)).setCell ⟨w.heap.size + 1, 1, none⟩ (.slice a2.A a2.n a2.k)).setCell ⟨w.heap.size + 1, 2, none⟩ (.slice a2.B a2.m a2.d)) (w.heap.size + 1) 30 #[.int .i64 s.1, .slice a2.A a2.n a2.k, .slice a2.B a2.m a2.d, .int .i64 0, .int .i64 0, .bool false, .slice none 0 0, .slice none 0 0] := hbk1.setCell 2 (.slice a2.B a2.m a2.d)
   have hbk3 : Blk ((((w8.setCell ⟨w.heap.size + 1, 0, none⟩ (.int .i64 s.1)).setCell ⟨w.heap.size + 1, 1, none⟩ (.slice a2.A a2.n a2.k)).setCell ⟨w.heap.size + 1, 2, none⟩ (.slice a2.B a2.m a2.d)).setCell ⟨w.heap.size + 1, 3, none⟩ (.int .i64 (gAsk g).dn)) (w.heap.size + 1) 30 #[.int .i64 s.1, .slice a2.A a2.n a2.k, .slice a2.B a2.m a2.d, .int .i64 (gAsk g).dn, .int .i64 0, .bool false, .slice none 0 0, .slice none 0 0] := hbk2.setCell 3 (.int .i64 (gAsk g).dn)
   have hbk4 : Blk (((((w8.setCell ⟨w.heap.size + 1, 0, none⟩ (.int .i64 s.1)).setCell ⟨w.heap.size + 1, 1, none⟩ (.slice a2.A a2.n a2.k)).setCell ⟨w.heap.size + 1, 2, none⟩ (.slice a2.B a2.m a2.d)).setCell ⟨w.heap.size + 1, 3, none⟩ (.int .i64 (gAsk g).dn)).setCell ⟨w.heap.size + 1, 4, none⟩ (.int .i64 (gAsk g).ak)) (w.heap.size + 1) 30 #[.int .i64 s.1, .slice a2.A a2.n a2.k, .slice a2.B a2.m a2.d, .int .i64 (gAsk g).dn, .int .i64 (gAsk g).ak, .bool false, .slice none 0 0, .slice none 0 0] := hbk3.setCell 4 (.int .i64 (gAsk g).ak)
   have hbk5 : Blk ((((((w8.setCell ⟨w.heap.size + 1, 0, none⟩ (.int .i64 s.1)).setCell ⟨w.heap.size + 1, 1, none⟩ (.slice a2.A a2.n a2.k)).setCell ⟨w.heap.size + 1, 2, none⟩ (.slice a2.B a2.m a2.d)).setCell ⟨w.heap.size + 1, 3, none⟩ (.int .i64 (gAsk g).dn)).setCell ⟨w.heap.size + 1, 4, none⟩ (.int .i64 (gAsk g).ak)).setCell ⟨w.heap.size + 1, 5, none⟩ (.bool (gAsk g).on)) (w.heap.size + 1) 30 #[.int .i64 s.1, .slice a2.A a2.n a2.k, .slice a2.B a2.m a2.d, .int .i64 (gAsk g).dn, .int .i64 (gAsk g).ak, .bool (gAsk g).on, .slice none 0 0, .slice none 0 0] := hbk4.setCell 5 (.bool (gAsk g).on)
   have hbk6 : Blk (((((((w8.setCell ⟨w.heap.size + 1, 0, none⟩ (.int .i64 s.1)).setCell ⟨w.heap.size + 1, 1, none⟩ (.slice a2.A a2.n a2.k)).setCell ⟨w.heap.size + 1, 2, none⟩ (.slice a2.B a2.m a2.d)).setCell ⟨w.heap.size + 1, 3, none⟩ (.int .i64 (gAsk g).dn)).setCell ⟨w.heap.size + 1, 4, none⟩ (.int .i64 (gAsk g).ak)).setCell ⟨w.heap.size + 1, 5, none⟩ (.bool (gAsk g).on)).setCell ⟨w.heap.size + 1, 6, none⟩ (.slice a2.D (gAsk g).nd.length a2.kd)) (w.heap.size + 1) 30 #[.int .i64 s.1, .slice a2.A a2.n a2.k, .slice a2.B a2.m a2.d, .int .i64 (gAsk g).dn, .int .i64 (gAsk g).ak, .bool (gAsk g).on, .slice a2.D (gAsk g).nd.length a2.kd, .slice none 0 0] := hbk5.setCell 6 (.slice a2.D (gAsk g).nd.length a2.kd)
   have hbk7 : Blk ((((((((w8.setCell ⟨w.heap.size + 1, 0, none⟩ (.int .i64 s.1)).setCell ⟨w.heap.size + 1, 1, none⟩ (.slice a2.A a2.n a2.k)).setCell ⟨w.heap.size + 1, 2, none⟩ (.slice a2.B a2.m a2.d)).setCell ⟨w.heap.size + 1, 3, none⟩ (.int .i64 (gAsk g).dn)).setCell ⟨w.heap.size + 1, 4, none⟩ (.int .i64 (gAsk g).ak)).setCell ⟨w.heap.size + 1, 5, none⟩ (.bool (gAsk g).on)).setCell ⟨w.heap.size + 1, 6, none⟩ (.slice a2.D (gAsk g).nd.length a2.kd)).setCell ⟨w.heap.size + 1, 7, none⟩ (.slice a2.Q a2.nq a2.kq)) (w.heap.size + 1) 30 #[.int .i64 s.1, .slice a2.A a2.n a2.k, .slice a2.B a2.m a2.d, .int .i64 (gAsk g).dn, .int .i64 (gAsk g).ak, .bool (gAsk g).on, .slice a2.D (gAsk g).nd.length a2.kd, .slice a2.Q a2.nq a2.kq] := hbk6.setCell 7 (.slice a2.Q a2.nq a2.kq)
   have hgr : w8.grownBy ((((((((w8.setCell ⟨w.heap.size + 1, 0, none⟩ (.int .i64 s.1)).setCell ⟨w.heap.size + 1, 1, none⟩ (.slice a2.A a2.n a2.k)).setCell ⟨w.heap.size + 1, 2, none⟩ (.slice a2.B a2.m a2.d)).setCell ⟨w.heap.size + 1, 3, none⟩ (.int .i64 (gAsk g).dn)).setCell ⟨w.heap.size + 1, 4, none⟩ (.int .i64 (gAsk g).ak)).setCell ⟨w.heap.size + 1, 5, none⟩ (.bool (gAsk g).on)).setCell ⟨w.heap.size + 1, 6, none⟩ (.slice a2.D (gAsk g).nd.length a2.kd)).setCell ⟨w.heap.size + 1, 7, none⟩ (.slice a2.Q a2.nq a2.kq)) (some (w.heap.size + 1)) := (grown_set (grown_set (grown_set (grown_set (grown_set (grown_set (grown_set (grown_set (World.grownBy.refl w8 (some (w.heap.size + 1))) 0 (.int .i64 s.1)) 1 (.slice a2.A a2.n a2.k)) 2 (.slice a2.B a2.m a2.d)) 3 (.int .i64 (gAsk g).dn)) 4 (.int .i64 (gAsk g).ak)) 5 (.bool (gAsk g).on)) 6 (.slice a2.D (gAsk g).nd.length a2.kd)) 7 (.slice a2.Q a2.nq a2.kq))
   replace PZ := hid hbk7
   clear hbk0 hbk1 hbk2 hbk3 hbk4 hbk5 hbk6 hbk7
   generalize (((((((w8.setCell ⟨w.heap.size + 1, 0, none⟩ (.int .i64 s.1)).setCell ⟨w.heap.size + 1, 1, none⟩ (.slice a2.A a2.n a2.k)).setCell ⟨w.heap.size + 1, 2, none⟩ (.slice a2.B a2.m a2.d)).setCell ⟨w.heap.size + 1, 3, none⟩ (.int .i64 (gAsk g).dn)).setCell ⟨w.heap.size + 1, 4, none⟩ (.int .i64 (gAsk g).ak)).setCell ⟨w.heap.size + 1, 5, none⟩ (.bool (gAsk g).on)).setCell ⟨w.heap.size + 1, 6, none⟩ (.slice a2.D (gAsk g).nd.length a2.kd)).setCell ⟨w.heap.size + 1, 7, none⟩ (.slice a2.Q a2.nq a2.kq) = w9 at *
   replace HRR := hid (HRR.out.turn hgr HP2.out.2); replace HB := hid (HB.out.grown hgr HB.out.size (fun r e => by cases e; omega))
   clear hgr
   obtain ⟨q0, q1, q2, q3, q4, q5, q6, q7, qf⟩ := PZ.out.cells8
   rw [HRZ.out.2]
   refine bodyPost_ret (v := .tuple #[rcv s (gAsk g) a2, .int .i64 0]) (by simp [results, Tryz.results36, go_sem, q0, q1, q2, q3, q4, q5, q6, q7]) rfl ⟨a2, es2, rfl, HQS.out, HN8.out, HRR.out.mono HPI.out, HB.out⟩
end Go.Proofs.YtfipdoofgbjbjaaGreat

/- afterglowref11: Step. No condition but sizes, and that rows hold numbers up to 8. -/
namespace Go.Proofs.YtfipdoofgbjbjaaGreat
open Go.RowKit Go.Shelf Go.Maps

def rstepF (s : St) (x : Int × Bool) : Int × St := if stC s x = 0 then (0, stN s x) else (stC s x, (0, [], []))
/-- the error's way out -/
theorem rstep_post {w W : World} {now : Int} {ns os : List Int} {x : Int × Bool} {code : Int} (hc : stC (now, ns, os) x = code) (h0 : code ≠ 0) (hb : Below w.heap.size w W) :
    OnePost w (rstepF (now, ns, os) x) (.returned (.tuple #[rv 0 none 0 0 none 0 0, .int .i64 code])) W := by
  have e : rstepF (now, ns, os) x = (code, (0, [], [])) := by unfold rstepF; rw [if_neg (by omega), hc]
  rw [e]
  exact ⟨none, 0, 0, none, 0, 0, rfl, Rown.none _ _, hb⟩

set_option maxRecDepth 10000 in
set_option maxHeartbeats 4000000 in
theorem rstep_bad (now : Int) (A : Option Addr) (n c : Nat) (B : Option Addr) (m d : Nat) (ns os : List Int) (cpu : Int) (ent : Bool) (w : World) (h : Rds w A n c B m d ns os) (hbad : stepCode now ns cpu ent ≠ 0) :
    Calls Tryz.prog 40 #[rv now A n c B m d, rdv cpu ent] w (OnePost w (rstepF (now, ns, os) (cpu, ent))) := by
  have hB := below_then (below_then (below_box w (.cells (rcs now A n c B m d) 24)) (below_box _ (.cells #[.int .i64 cpu, .bool ent] 87))) (below_box _ (.cells (rcs 0 none 0 0 none 0 0) 24))
  have PR := ((Blk.new w 24 (rcs now A n c B m d)).step (below_box _ (.cells #[.int .i64 cpu, .bool ent] 87))).step (below_box _ (.cells (rcs 0 none 0 0 none 0 0) 24))
  have PX := (Blk.new2 w 87 #[.int .i64 cpu, .bool ent] (.cells (rcs now A n c B m d) 24)).step (below_box _ (.cells (rcs 0 none 0 0 none 0 0) 24))
  have HR := hid (h.step hB)
  have hl := h.lenx
  obtain ⟨k0, k1, k2, kf⟩ := PR.cells3
  obtain ⟨r0, r1, rf⟩ := PX.cells2
  have HB := hid hB
  clear h PX hB PR
  by_cases c1 : cpu < 0
  · have E := hid (show stC (now, ns, os) (cpu, ent) = 2 by show stepCode now ns cpu ent = 2; unfold stepCode; rw [if_pos (.inl c1)])
    clear hl hbad
    go_enter Tryz.func40, Tryz.ntmps40
    go_wp2
    refine bodyPost_ret (v := .tuple #[rv 0 none 0 0 none 0 0, .int .i64 2]) (by simp [results, Tryz.results40, go_sem]) rfl (rstep_post E.out (by omega) HB.out)
  obtain ⟨k, rfl⟩ := Int.eq_ofNat_of_zero_le (by omega : 0 ≤ cpu)
  by_cases c2 : k < n
  · have hlt : ¬ ((k : Int) < 0 ∨ (ns.length : Int) ≤ k) := by omega
    obtain ⟨b, off, rfl, _, _, hc⟩ := HR.out.hx.row (by omega)
    have g := hc k c2
    obtain ⟨x, hX⟩ : ∃ x, x = ns[k]?.getD 0 := ⟨_, rfl⟩
    rw [← hX] at g
    have HX := hid hX
    have HLT := hid hlt
    clear hlt hl hc hX
    by_cases c3 : now = 2147483647
    · have E := hid (show stC (now, ns, os) (k, ent) = 6 by show stepCode now ns k ent = 6; unfold stepCode; rw [if_neg HLT.out, if_pos c3])
      have c3' : (now == 2147483647) = true := by simp [c3]
      clear c3 hbad
      go_enter Tryz.func40, Tryz.ntmps40
      go_wp2
      refine bodyPost_ret (v := .tuple #[rv 0 none 0 0 none 0 0, .int .i64 6]) (by simp [results, Tryz.results40, go_sem]) rfl (rstep_post E.out (by omega) HB.out)
    · have E0 := hid (show stepCode now ns k ent = if ent = true then (if x = 8 then 6 else 0) else (if x = 0 then 4 else 0) by unfold stepCode; rw [if_neg HLT.out, if_neg c3, HX.out]; rfl)
      have c3' : (now == 2147483647) = false := by simp [c3]
      clear c3
      cases ent
      · have hx0 : x = 0 := by
          apply Classical.byContradiction; intro hne
          exact hbad (by rw [E0.out, if_neg (by simp), if_neg hne])
        have E := hid (show stC (now, ns, os) (k, false) = 4 by show stepCode now ns k false = 4; rw [E0.out, if_neg (by simp), if_pos hx0])
        clear hbad
        subst hx0
        go_enter Tryz.func40, Tryz.ntmps40
        go_wp2
        refine bodyPost_ret (v := .tuple #[rv 0 none 0 0 none 0 0, .int .i64 4]) (by simp [results, Tryz.results40, go_sem]) rfl (rstep_post E.out (by omega) HB.out)
      · have hx0 : x = 8 := by
          apply Classical.byContradiction; intro hne
          exact hbad (by rw [E0.out, if_pos rfl, if_neg hne])
        have E := hid (show stC (now, ns, os) (k, true) = 6 by show stepCode now ns k true = 6; rw [E0.out, if_pos rfl, if_pos hx0])
        clear hbad
        subst hx0
        go_enter Tryz.func40, Tryz.ntmps40
        go_wp2
        refine bodyPost_ret (v := .tuple #[rv 0 none 0 0 none 0 0, .int .i64 6]) (by simp [results, Tryz.results40, go_sem]) rfl (rstep_post E.out (by omega) HB.out)
  · have E := hid (show stC (now, ns, os) (k, ent) = 2 by show stepCode now ns k ent = 2; unfold stepCode; rw [if_pos (.inr (by omega))])
    clear hl hbad
    go_enter Tryz.func40, Tryz.ntmps40
    go_wp2
    refine bodyPost_ret (v := .tuple #[rv 0 none 0 0 none 0 0, .int .i64 2]) (by simp [results, Tryz.results40, go_sem]) rfl (rstep_post E.out (by omega) HB.out)
end Go.Proofs.YtfipdoofgbjbjaaGreat

/- afterglowref11: Step, where it goes on. No condition but sizes, and that rows hold numbers up to 8. -/
namespace Go.Proofs.YtfipdoofgbjbjaaGreat
open Go.RowKit Go.Shelf Go.Maps

theorem Blk.set3 {w : World} {g : Nat} {t : TypeId} {a b c x y z : Value} (h : Blk w g t #[a, b, c]) : Blk (((w.setCell ⟨g, 0, none⟩ x).setCell ⟨g, 1, none⟩ y).setCell ⟨g, 2, none⟩ z) g t #[x, y, z] := ((h.setCell 0 x).setCell 1 y).setCell 2 z
/-- readers in a box, with two rows of their own, apart -/
structure Hand2 (W : World) (lo g : Nat) (now : Int) (ga n ca gb cb : Nat) (ns os : List Int) : Prop where
  box : Blk W g 24 (rcs now (some ⟨ga, 0, none⟩) n ca (some ⟨gb, 0, none⟩) n cb)
  oa : Ow i64 W lo 3 (some ⟨ga, 0, none⟩) n ca ns
  ob : Ow i64 W lo 3 (some ⟨gb, 0, none⟩) n cb os
  apart : ga ≠ gb ∧ ga ≠ g ∧ gb ≠ g
  hlo : lo ≤ g ∧ lo ≤ ga ∧ lo ≤ gb

set_option maxRecDepth 10000 in
set_option maxHeartbeats 16000000 in
theorem rstep_ok_f (now : Int) (A : Option Addr) (n c : Nat) (B : Option Addr) (d : Nat) (ns os : List Int) (k : Nat) (w : World) (h : Rds w A n c B n d ns os) (hk : k < n) (hn0 : 0 ≤ now) (hn1 : now < 2147483647) (h8 : 0 ≤ ns[k]?.getD 0 ∧ ns[k]?.getD 0 ≤ 8) (hok : ns[k]?.getD 0 ≠ 0) :
    Calls Tryz.prog 40 #[rv now A n c B n d, rdv k false] w (OnePost w (0, (now + 1, stepNs ns k false, stepOs now ns os k false))) := by
  obtain ⟨i0, hi0, hz00, hz01, hz02⟩ := info_parts info_int
  have hB := below_then (below_then (below_box w (.cells (rcs now A n c B n d) 24)) (below_box _ (.cells #[.int .i64 k, .bool false] 87))) (below_box _ (.cells (rcs 0 none 0 0 none 0 0) 24))
  have PR := ((Blk.new w 24 (rcs now A n c B n d)).step (below_box _ (.cells #[.int .i64 k, .bool false] 87))).step (below_box _ (.cells (rcs 0 none 0 0 none 0 0) 24))
  have PX := (Blk.new2 w 87 #[.int .i64 k, .bool false] (.cells (rcs now A n c B n d) 24)).step (below_box _ (.cells (rcs 0 none 0 0 none 0 0) 24))
  have PZ := Blk.new3 w 24 (rcs 0 none 0 0 none 0 0) (.cells (rcs now A n c B n d) 24) (.cells #[.int .i64 k, .bool false] 87)
  have HR := hid (h.step hB)
  have hn := h.hn
  obtain ⟨b, off, hAe, _, _, hc⟩ := HR.out.hx.row (by omega)
  have g := hc k hk
  obtain ⟨x, hX⟩ : ∃ x, x = ns[k]?.getD 0 := ⟨_, rfl⟩
  rw [← hX] at g h8 hok
  obtain ⟨k0, k1, k2, kf⟩ := PR.cells3
  obtain ⟨r0, r1, rf⟩ := PX.cells2
  have HX := hid hX; have HB := hid hB; have HPR := hid PR; have HPX := hid PX; have HPZ := hid PZ
  have c3' : (now == 2147483647) = false := by simp; omega
  have hz : (((w.alloc (.cells (rcs now A n c B n d) 24)).alloc (.cells #[.int .i64 k, .bool false] 87)).alloc (.cells (rcs 0 none 0 0 none 0 0) 24)).heap.size = w.heap.size + 3 := by simp
  have HZ := hid hz
  subst hAe
  clear h PX hB PR hc hX PZ hz
  have hx0 : (x == 0) = false := by simpa using hok
  clear hok
  go_enter Tryz.func40, Tryz.ntmps40
  go_upto_region 8 with fail
  clear k0 k1 k2 kf r0 r1 rf g
  generalize ((w.alloc (.cells #[.int .i64 now, .slice (some ⟨b, off, none⟩) n c, .slice B n d] 24)).alloc (.cells #[.int .i64 k, .bool false] 87)).alloc (.cells #[.int .i64 0, .slice none 0 0, .slice none 0 0] 24) = W0 at *
  go_cut [7] (fun s7 wx => ∃ g ga gb ca cb : Nat, s7 = .pointer (some ⟨g, 0, none⟩) ∧ Hand2 wx W0.heap.size g (now + 1) ga n ca gb cb ns os ∧ Below W0.heap.size W0 wx)
  case first =>
    obtain ⟨k0, k1, k2, kf⟩ := HPR.out.cells3
    have hwr : IntKind.i64.wrap (now + 1) = now + 1 := by rw [IntKind.wrap_i64]; omega
    have HS : Hid (∀ W, Below W0.heap.size W0 W → (Below W0.heap.size W0 W ∧ W.cell? ⟨w.heap.size, 0, none⟩ = some (.int .i64 now) ∧ W.cell? ⟨w.heap.size, 1, none⟩ = some (.slice (some ⟨b, off, none⟩) n c) ∧ W.cell? ⟨w.heap.size, 2, none⟩ = some (.slice B n d))) :=
      hid (fun W hw => ⟨hw, (HPR.out.step hw).cells3.1, (HPR.out.step hw).cells3.2.1, (HPR.out.step hw).cells3.2.2.1⟩)
    go_region_held3 (fun w' => Below W0.heap.size W0 w' ∧ w'.cell? ⟨w.heap.size, 0, none⟩ = some (.int .i64 now) ∧ w'.cell? ⟨w.heap.size, 1, none⟩ = some (.slice (some ⟨b, off, none⟩) n c) ∧ w'.cell? ⟨w.heap.size, 2, none⟩ = some (.slice B n d))
      (first
        | (go_split_ands; exact HS.out _ (by (repeat (first | assumption | (with_reducible exact Below.refl _ _) | (with_reducible exact (Below.refl _ _).drew) | (with_reducible refine Below.drew ?_) | (with_reducible refine Below.setCell ?_ (by simp <;> omega) _) | (with_reducible refine below_then ?_ (below_box _ _)) | (with_reducible refine below_then ?_ bB) | (with_reducible refine below_then ?_ bA))); done))
        | (go_keep; done))
      (first
        | (go_split_ands; refine step_appf i64 0 _ rfl _ _ 22 rfl 3 i0 _ 8 Tryz.underlying22 hi0 hz00 hz01 hz02 rfl 0 0 _ 0 0 [] rfl (Sl.nil _ _ _ _) _ _ (some ⟨b, off, none⟩) n c ns rfl (HR.out.hx.step (by assumption)) (by omega) one_i64 (by omega) (by simp only [maxLen]; omega) (by omega) (by omega) W0.heap.size (Below.size (by assumption)) ?_; intro ca wA ownA bA sA; simp only [Nat.zero_add, List.nil_append] at ownA; obtain ⟨cA, fA⟩ := bcell bA)
        | (go_split_ands; refine step_appf i64 0 _ rfl _ _ 22 rfl 3 i0 _ 8 Tryz.underlying22 hi0 hz00 hz01 hz02 rfl 0 0 _ 0 0 [] rfl (Sl.nil _ _ _ _) _ _ B n d os rfl (HR.out.hy.step (by assumption)) (by omega) one_i64 (by omega) (by simp only [maxLen]; omega) (by omega) (by omega) W0.heap.size (Below.size (by assumption)) ?_; intro cb wB ownB bB sB; simp only [Nat.zero_add, List.nil_append] at ownB; obtain ⟨cB, fB⟩ := bcell bB))
    all_goals
      go_wp2_with fail
      go_meet
      go_split_ands
      (try simp at sA)
      (try simp at sB)
      first
        | (have oA := ownA.step bB; have oB := ownB)
        | (have oA := (ownA.alloc _).step bB; have oB := ownB)
        | (have oA := ((ownA.alloc _).alloc _).step bB; have oB := ownB)
        | (have oB := ownB.step bA; have oA := ownA)
        | (have oB := (ownB.alloc _).step bA; have oA := ownA)
        | (have oB := ((ownB.alloc _).alloc _).step bA; have oA := ownA)
      (try simp only [World.size_alloc, World.size_drew, sA, sB] at oA)
      (try simp only [World.size_alloc, World.size_drew, sA, sB] at oB)
      refine' ⟨_, _, _, ca, cb, rfl, ⟨?box, ?oa, ?ob, ?ap, ?lo⟩, by assumption⟩
      case oa => first | exact oA | exact oA.alloc _ | exact ((oA.far (p := ⟨_, 0, none⟩) (by simp <;> omega) _).far (p := ⟨_, 1, none⟩) (by simp <;> omega) _).far (p := ⟨_, 2, none⟩) (by simp <;> omega) _
      case ob => first | exact oB | exact oB.alloc _ | exact ((oB.far (p := ⟨_, 0, none⟩) (by simp <;> omega) _).far (p := ⟨_, 1, none⟩) (by simp <;> omega) _).far (p := ⟨_, 2, none⟩) (by simp <;> omega) _
      case box =>
        first
          | exact Blk.at (by first | omega | (simp only [World.size_alloc, World.size_drew]; omega) | (simp <;> omega))
          | (refine Blk.set3 (a := .int .i64 0) (b := .slice none 0 0) (c := .slice none 0 0) ?_
             repeat (first | (with_reducible exact Blk.at (by first | omega | (simp only [World.size_alloc, World.size_drew]; omega) | (simp <;> omega))) | (with_reducible refine Blk.below ?_ bB (by first | omega | (simp only [World.size_alloc, World.size_drew]; omega) | (simp <;> omega))) | (with_reducible refine Blk.below ?_ bA (by first | omega | (simp only [World.size_alloc, World.size_drew]; omega) | (simp <;> omega))) | (with_reducible refine Blk.drew ?_) | (with_reducible refine Blk.alloc ?_ _)))
      case ap => (first | omega | (simp only [World.size_alloc, World.size_drew]; omega) | (simp <;> omega))
      case lo => (first | omega | (simp only [World.size_alloc, World.size_drew]; omega) | (simp <;> omega))
  case rest =>
    obtain ⟨g, ga, gb, ca, cb, rfl, hH, hBx⟩ := hcut
    obtain ⟨d1, d2, d3⟩ := hH.apart
    obtain ⟨l1, l2, l3⟩ := hH.hlo
    have hz := HZ.out
    have PX := HPX.out.step hBx
    have PZ := HPZ.out.step hBx
    obtain ⟨r0, r1, rf⟩ := PX.cells2
    obtain ⟨k0, k1, k2, kf⟩ := hH.box.cells3
    obtain ⟨ga', hq, _, _, a0, af⟩ := hH.oa.at_ 0 hk
    obtain rfl : ga = ga' := by simpa using hq
    obtain ⟨gb', hq', _, _, b0, bf⟩ := hH.ob.at_ 0 hk
    obtain rfl : gb = gb' := by simpa using hq'
    clear hq hq'
    have B1 := hH.box.far (p := ⟨ga, k, none⟩) (Ne.symm d2) (.int .i64 (x - 1))
    have PX1 := PX.far (p := ⟨ga, k, none⟩) (by simp; omega) (.int .i64 (x - 1))
    have PZ1 := PZ.far (p := ⟨ga, k, none⟩) (by simp; omega) (.int .i64 (x - 1))
    have HZZ := hid hz
    have n1 : w.heap.size + 1 + 1 ≠ gb := by omega
    have n2 : w.heap.size ≤ ga := by omega
    have n3 : w.heap.size ≤ gb := by omega
    have n4 : w.heap.size + 1 + 1 ≠ g := by omega
    clear hz
    obtain ⟨s0, s1, sf⟩ := PX1.cells2
    obtain ⟨m0, m1, m2, mf⟩ := B1.cells3
    have HHx := hid hH; have HBx := hid hBx
    by_cases hx1 : x = 1
    · have E := hid (show stepOs now ns os k false = os.set k 0 by unfold stepOs; rw [if_neg (by simp), ← HX.out, hx1]; rfl)
      have E' := hid (show stepNs ns k false = ns.set k (x - 1) by unfold stepNs; rw [if_neg (by simp), ← HX.out])
      have PZ2 := PZ1.far (p := ⟨gb, k, none⟩) n1 (.int .i64 0)
      have B2 := B1.far (p := ⟨gb, k, none⟩) (Ne.symm d3) (.int .i64 0)
      obtain ⟨p0, p1, p2, pf⟩ := B2.cells3
      obtain ⟨z0, z1, z2, zf⟩ := PZ2.cells3
      have HPZ2 := hid PZ2
      have tx : (x == 1) = true := by simp [hx1]
      clear hx1 PZ1 PZ2 B1 B2 PX PX1 PZ hH hBx
      go_wp2
      have q := ((HPZ2.out.setCell 0 (.int .i64 (now + 1))).setCell 1 (.slice (some ⟨ga, 0, none⟩) n ca)).setCell 2 (.slice (some ⟨gb, 0, none⟩) n cb)
      obtain ⟨q0, q1, q2, qf⟩ := q.cells3
      refine bodyPost_ret (v := .tuple #[rv (now + 1) (some ⟨ga, 0, none⟩) n ca (some ⟨gb, 0, none⟩) n cb, .int .i64 0]) (by simp [results, Tryz.results40, go_sem, q0, q1, q2]) rfl ⟨some ⟨ga, 0, none⟩, n, ca, some ⟨gb, 0, none⟩, n, cb, rfl, ?_, ?_⟩
      · refine ⟨?_, ?_, fun a b e1 e2 => by simp at e1 e2; omega, hn, hn⟩
        · rw [E'.out]
          exact (((((HHx.out.oa.stored k _).far (p := ⟨gb, k, none⟩) d1 _).far (p := ⟨w.heap.size + 1 + 1, 0, none⟩) (by have := HZZ.out; simp; omega) _).far (p := ⟨w.heap.size + 1 + 1, 1, none⟩) (by have := HZZ.out; simp; omega) _).far (p := ⟨w.heap.size + 1 + 1, 2, none⟩) (by have := HZZ.out; simp; omega) _).mono (by have := HZZ.out; omega)
        · rw [E.out]
          exact (((((HHx.out.ob.far (p := ⟨ga, k, none⟩) (Ne.symm d1) _).stored k _).far (p := ⟨w.heap.size + 1 + 1, 0, none⟩) (Ne.symm n1) _).far (p := ⟨w.heap.size + 1 + 1, 1, none⟩) (Ne.symm n1) _).far (p := ⟨w.heap.size + 1 + 1, 2, none⟩) (Ne.symm n1) _).mono (by have := HZZ.out; omega)
      · exact (((((below_then HB.out HBx.out).setCell n2 _).setCell n3 _).setCell (by simp; omega) _).setCell (by simp; omega) _).setCell (by simp; omega) _
    · have E := hid (show stepOs now ns os k false = os by unfold stepOs; rw [if_neg (by simp), ← HX.out]; unfold leaveO; rw [if_neg hx1])
      have E' := hid (show stepNs ns k false = ns.set k (x - 1) by unfold stepNs; rw [if_neg (by simp), ← HX.out])
      obtain ⟨z0, z1, z2, zf⟩ := PZ1.cells3
      have HPZ2 := hid PZ1
      have tx : (x == 1) = false := by simp [hx1]
      clear hx1 PZ1 B1 PX PX1 PZ hH hBx
      go_wp2
      have q := ((HPZ2.out.setCell 0 (.int .i64 (now + 1))).setCell 1 (.slice (some ⟨ga, 0, none⟩) n ca)).setCell 2 (.slice (some ⟨gb, 0, none⟩) n cb)
      obtain ⟨q0, q1, q2, qf⟩ := q.cells3
      refine bodyPost_ret (v := .tuple #[rv (now + 1) (some ⟨ga, 0, none⟩) n ca (some ⟨gb, 0, none⟩) n cb, .int .i64 0]) (by simp [results, Tryz.results40, go_sem, q0, q1, q2]) rfl ⟨some ⟨ga, 0, none⟩, n, ca, some ⟨gb, 0, none⟩, n, cb, rfl, ?_, ?_⟩
      · refine ⟨?_, ?_, fun a b e1 e2 => by simp at e1 e2; omega, hn, hn⟩
        · rw [E'.out]
          exact ((((HHx.out.oa.stored k _).far (p := ⟨w.heap.size + 1 + 1, 0, none⟩) (by have := HZZ.out; simp; omega) _).far (p := ⟨w.heap.size + 1 + 1, 1, none⟩) (by have := HZZ.out; simp; omega) _).far (p := ⟨w.heap.size + 1 + 1, 2, none⟩) (by have := HZZ.out; simp; omega) _).mono (by have := HZZ.out; omega)
        · rw [E.out]
          exact ((((HHx.out.ob.far (p := ⟨ga, k, none⟩) (Ne.symm d1) _).far (p := ⟨w.heap.size + 1 + 1, 0, none⟩) (Ne.symm n1) _).far (p := ⟨w.heap.size + 1 + 1, 1, none⟩) (Ne.symm n1) _).far (p := ⟨w.heap.size + 1 + 1, 2, none⟩) (Ne.symm n1) _).mono (by have := HZZ.out; omega)
      · exact ((((below_then HB.out HBx.out).setCell n2 _).setCell (by simp; omega) _).setCell (by simp; omega) _).setCell (by simp; omega) _
end Go.Proofs.YtfipdoofgbjbjaaGreat

/- afterglowref11: Step, where it goes on. No condition but sizes, and that rows hold numbers up to 8. -/
namespace Go.Proofs.YtfipdoofgbjbjaaGreat
open Go.RowKit Go.Shelf Go.Maps

set_option maxRecDepth 10000 in
set_option maxHeartbeats 16000000 in
theorem rstep_ok_t (now : Int) (A : Option Addr) (n c : Nat) (B : Option Addr) (d : Nat) (ns os : List Int) (k : Nat) (w : World) (h : Rds w A n c B n d ns os) (hk : k < n) (hn0 : 0 ≤ now) (hn1 : now < 2147483647) (h8 : 0 ≤ ns[k]?.getD 0 ∧ ns[k]?.getD 0 ≤ 8) (hok : ns[k]?.getD 0 ≠ 8) :
    Calls Tryz.prog 40 #[rv now A n c B n d, rdv k true] w (OnePost w (0, (now + 1, stepNs ns k true, stepOs now ns os k true))) := by
  obtain ⟨i0, hi0, hz00, hz01, hz02⟩ := info_parts info_int
  have hB := below_then (below_then (below_box w (.cells (rcs now A n c B n d) 24)) (below_box _ (.cells #[.int .i64 k, .bool true] 87))) (below_box _ (.cells (rcs 0 none 0 0 none 0 0) 24))
  have PR := ((Blk.new w 24 (rcs now A n c B n d)).step (below_box _ (.cells #[.int .i64 k, .bool true] 87))).step (below_box _ (.cells (rcs 0 none 0 0 none 0 0) 24))
  have PX := (Blk.new2 w 87 #[.int .i64 k, .bool true] (.cells (rcs now A n c B n d) 24)).step (below_box _ (.cells (rcs 0 none 0 0 none 0 0) 24))
  have PZ := Blk.new3 w 24 (rcs 0 none 0 0 none 0 0) (.cells (rcs now A n c B n d) 24) (.cells #[.int .i64 k, .bool true] 87)
  have HR := hid (h.step hB)
  have hn := h.hn
  obtain ⟨b, off, hAe, _, _, hc⟩ := HR.out.hx.row (by omega)
  have g := hc k hk
  obtain ⟨x, hX⟩ : ∃ x, x = ns[k]?.getD 0 := ⟨_, rfl⟩
  rw [← hX] at g h8 hok
  obtain ⟨k0, k1, k2, kf⟩ := PR.cells3
  obtain ⟨r0, r1, rf⟩ := PX.cells2
  have HX := hid hX; have HB := hid hB; have HPR := hid PR; have HPX := hid PX; have HPZ := hid PZ
  have c3' : (now == 2147483647) = false := by simp; omega
  have hz : (((w.alloc (.cells (rcs now A n c B n d) 24)).alloc (.cells #[.int .i64 k, .bool true] 87)).alloc (.cells (rcs 0 none 0 0 none 0 0) 24)).heap.size = w.heap.size + 3 := by simp
  have HZ := hid hz
  subst hAe
  clear h PX hB PR hc hX PZ hz
  have hx0 : (x == 8) = false := by simpa using hok
  clear hok
  go_enter Tryz.func40, Tryz.ntmps40
  go_upto_region 8 with fail
  clear k0 k1 k2 kf r0 r1 rf g
  generalize ((w.alloc (.cells #[.int .i64 now, .slice (some ⟨b, off, none⟩) n c, .slice B n d] 24)).alloc (.cells #[.int .i64 k, .bool true] 87)).alloc (.cells #[.int .i64 0, .slice none 0 0, .slice none 0 0] 24) = W0 at *
  go_cut [7] (fun s7 wx => ∃ g ga gb ca cb : Nat, s7 = .pointer (some ⟨g, 0, none⟩) ∧ Hand2 wx W0.heap.size g (now + 1) ga n ca gb cb ns os ∧ Below W0.heap.size W0 wx)
  case first =>
    obtain ⟨k0, k1, k2, kf⟩ := HPR.out.cells3
    have hwr : IntKind.i64.wrap (now + 1) = now + 1 := by rw [IntKind.wrap_i64]; omega
    have HS : Hid (∀ W, Below W0.heap.size W0 W → (Below W0.heap.size W0 W ∧ W.cell? ⟨w.heap.size, 0, none⟩ = some (.int .i64 now) ∧ W.cell? ⟨w.heap.size, 1, none⟩ = some (.slice (some ⟨b, off, none⟩) n c) ∧ W.cell? ⟨w.heap.size, 2, none⟩ = some (.slice B n d))) :=
      hid (fun W hw => ⟨hw, (HPR.out.step hw).cells3.1, (HPR.out.step hw).cells3.2.1, (HPR.out.step hw).cells3.2.2.1⟩)
    go_region_held3 (fun w' => Below W0.heap.size W0 w' ∧ w'.cell? ⟨w.heap.size, 0, none⟩ = some (.int .i64 now) ∧ w'.cell? ⟨w.heap.size, 1, none⟩ = some (.slice (some ⟨b, off, none⟩) n c) ∧ w'.cell? ⟨w.heap.size, 2, none⟩ = some (.slice B n d))
      (first
        | (go_split_ands; exact HS.out _ (by (repeat (first | assumption | (with_reducible exact Below.refl _ _) | (with_reducible exact (Below.refl _ _).drew) | (with_reducible refine Below.drew ?_) | (with_reducible refine Below.setCell ?_ (by simp <;> omega) _) | (with_reducible refine below_then ?_ (below_box _ _)) | (with_reducible refine below_then ?_ bB) | (with_reducible refine below_then ?_ bA))); done))
        | (go_keep; done))
      (first
        | (go_split_ands; refine step_appf i64 0 _ rfl _ _ 22 rfl 3 i0 _ 8 Tryz.underlying22 hi0 hz00 hz01 hz02 rfl 0 0 _ 0 0 [] rfl (Sl.nil _ _ _ _) _ _ (some ⟨b, off, none⟩) n c ns rfl (HR.out.hx.step (by assumption)) (by omega) one_i64 (by omega) (by simp only [maxLen]; omega) (by omega) (by omega) W0.heap.size (Below.size (by assumption)) ?_; intro ca wA ownA bA sA; simp only [Nat.zero_add, List.nil_append] at ownA; obtain ⟨cA, fA⟩ := bcell bA)
        | (go_split_ands; refine step_appf i64 0 _ rfl _ _ 22 rfl 3 i0 _ 8 Tryz.underlying22 hi0 hz00 hz01 hz02 rfl 0 0 _ 0 0 [] rfl (Sl.nil _ _ _ _) _ _ B n d os rfl (HR.out.hy.step (by assumption)) (by omega) one_i64 (by omega) (by simp only [maxLen]; omega) (by omega) (by omega) W0.heap.size (Below.size (by assumption)) ?_; intro cb wB ownB bB sB; simp only [Nat.zero_add, List.nil_append] at ownB; obtain ⟨cB, fB⟩ := bcell bB))
    all_goals
      go_wp2_with fail
      go_meet
      go_split_ands
      (try simp at sA)
      (try simp at sB)
      first
        | (have oA := ownA.step bB; have oB := ownB)
        | (have oA := (ownA.alloc _).step bB; have oB := ownB)
        | (have oA := ((ownA.alloc _).alloc _).step bB; have oB := ownB)
        | (have oB := ownB.step bA; have oA := ownA)
        | (have oB := (ownB.alloc _).step bA; have oA := ownA)
        | (have oB := ((ownB.alloc _).alloc _).step bA; have oA := ownA)
      (try simp only [World.size_alloc, World.size_drew, sA, sB] at oA)
      (try simp only [World.size_alloc, World.size_drew, sA, sB] at oB)
      refine' ⟨_, _, _, ca, cb, rfl, ⟨?box, ?oa, ?ob, ?ap, ?lo⟩, by assumption⟩
      case oa => first | exact oA | exact oA.alloc _ | exact ((oA.far (p := ⟨_, 0, none⟩) (by simp <;> omega) _).far (p := ⟨_, 1, none⟩) (by simp <;> omega) _).far (p := ⟨_, 2, none⟩) (by simp <;> omega) _
      case ob => first | exact oB | exact oB.alloc _ | exact ((oB.far (p := ⟨_, 0, none⟩) (by simp <;> omega) _).far (p := ⟨_, 1, none⟩) (by simp <;> omega) _).far (p := ⟨_, 2, none⟩) (by simp <;> omega) _
      case box =>
        first
          | exact Blk.at (by first | omega | (simp only [World.size_alloc, World.size_drew]; omega) | (simp <;> omega))
          | (refine Blk.set3 (a := .int .i64 0) (b := .slice none 0 0) (c := .slice none 0 0) ?_
             repeat (first | (with_reducible exact Blk.at (by first | omega | (simp only [World.size_alloc, World.size_drew]; omega) | (simp <;> omega))) | (with_reducible refine Blk.below ?_ bB (by first | omega | (simp only [World.size_alloc, World.size_drew]; omega) | (simp <;> omega))) | (with_reducible refine Blk.below ?_ bA (by first | omega | (simp only [World.size_alloc, World.size_drew]; omega) | (simp <;> omega))) | (with_reducible refine Blk.drew ?_) | (with_reducible refine Blk.alloc ?_ _)))
      case ap => (first | omega | (simp only [World.size_alloc, World.size_drew]; omega) | (simp <;> omega))
      case lo => (first | omega | (simp only [World.size_alloc, World.size_drew]; omega) | (simp <;> omega))
  case rest =>
    obtain ⟨g, ga, gb, ca, cb, rfl, hH, hBx⟩ := hcut
    obtain ⟨d1, d2, d3⟩ := hH.apart
    obtain ⟨l1, l2, l3⟩ := hH.hlo
    have hz := HZ.out
    have PX := HPX.out.step hBx
    have PZ := HPZ.out.step hBx
    obtain ⟨r0, r1, rf⟩ := PX.cells2
    obtain ⟨k0, k1, k2, kf⟩ := hH.box.cells3
    obtain ⟨ga', hq, _, _, a0, af⟩ := hH.oa.at_ 0 hk
    obtain rfl : ga = ga' := by simpa using hq
    obtain ⟨gb', hq', _, _, b0, bf⟩ := hH.ob.at_ 0 hk
    obtain rfl : gb = gb' := by simpa using hq'
    clear hq hq'
    have B1 := hH.box.far (p := ⟨ga, k, none⟩) (Ne.symm d2) (.int .i64 (x + 1))
    have PX1 := PX.far (p := ⟨ga, k, none⟩) (by simp; omega) (.int .i64 (x + 1))
    have PZ1 := PZ.far (p := ⟨ga, k, none⟩) (by simp; omega) (.int .i64 (x + 1))
    have HZZ := hid hz
    have n1 : w.heap.size + 1 + 1 ≠ gb := by omega
    have n2 : w.heap.size ≤ ga := by omega
    have n3 : w.heap.size ≤ gb := by omega
    have n4 : w.heap.size + 1 + 1 ≠ g := by omega
    clear hz
    obtain ⟨s0, s1, sf⟩ := PX1.cells2
    obtain ⟨m0, m1, m2, mf⟩ := B1.cells3
    have HHx := hid hH; have HBx := hid hBx
    by_cases hx1 : x = 0
    · have E := hid (show stepOs now ns os k true = os.set k (now + 1) by unfold stepOs; rw [if_pos rfl, ← HX.out, hx1]; rfl)
      have E' := hid (show stepNs ns k true = ns.set k (x + 1) by unfold stepNs; rw [if_pos rfl, ← HX.out])
      have PZ2 := PZ1.far (p := ⟨gb, k, none⟩) n1 (.int .i64 (now + 1))
      have B2 := B1.far (p := ⟨gb, k, none⟩) (Ne.symm d3) (.int .i64 (now + 1))
      obtain ⟨p0, p1, p2, pf⟩ := B2.cells3
      obtain ⟨z0, z1, z2, zf⟩ := PZ2.cells3
      have HPZ2 := hid PZ2
      have tx : (x == 0) = true := by simp [hx1]
      clear hx1 PZ1 PZ2 B1 B2 PX PX1 PZ hH hBx
      go_wp2
      have q := ((HPZ2.out.setCell 0 (.int .i64 (now + 1))).setCell 1 (.slice (some ⟨ga, 0, none⟩) n ca)).setCell 2 (.slice (some ⟨gb, 0, none⟩) n cb)
      obtain ⟨q0, q1, q2, qf⟩ := q.cells3
      refine bodyPost_ret (v := .tuple #[rv (now + 1) (some ⟨ga, 0, none⟩) n ca (some ⟨gb, 0, none⟩) n cb, .int .i64 0]) (by simp [results, Tryz.results40, go_sem, q0, q1, q2]) rfl ⟨some ⟨ga, 0, none⟩, n, ca, some ⟨gb, 0, none⟩, n, cb, rfl, ?_, ?_⟩
      · refine ⟨?_, ?_, fun a b e1 e2 => by simp at e1 e2; omega, hn, hn⟩
        · rw [E'.out]
          exact (((((HHx.out.oa.stored k _).far (p := ⟨gb, k, none⟩) d1 _).far (p := ⟨w.heap.size + 1 + 1, 0, none⟩) (by have := HZZ.out; simp; omega) _).far (p := ⟨w.heap.size + 1 + 1, 1, none⟩) (by have := HZZ.out; simp; omega) _).far (p := ⟨w.heap.size + 1 + 1, 2, none⟩) (by have := HZZ.out; simp; omega) _).mono (by have := HZZ.out; omega)
        · rw [E.out]
          exact (((((HHx.out.ob.far (p := ⟨ga, k, none⟩) (Ne.symm d1) _).stored k _).far (p := ⟨w.heap.size + 1 + 1, 0, none⟩) (Ne.symm n1) _).far (p := ⟨w.heap.size + 1 + 1, 1, none⟩) (Ne.symm n1) _).far (p := ⟨w.heap.size + 1 + 1, 2, none⟩) (Ne.symm n1) _).mono (by have := HZZ.out; omega)
      · exact (((((below_then HB.out HBx.out).setCell n2 _).setCell n3 _).setCell (by simp; omega) _).setCell (by simp; omega) _).setCell (by simp; omega) _
    · have E := hid (show stepOs now ns os k true = os by unfold stepOs; rw [if_pos rfl, ← HX.out]; unfold enterO; rw [if_neg hx1])
      have E' := hid (show stepNs ns k true = ns.set k (x + 1) by unfold stepNs; rw [if_pos rfl, ← HX.out])
      obtain ⟨z0, z1, z2, zf⟩ := PZ1.cells3
      have HPZ2 := hid PZ1
      have tx : (x == 0) = false := by simp [hx1]
      clear hx1 PZ1 B1 PX PX1 PZ hH hBx
      go_wp2
      have q := ((HPZ2.out.setCell 0 (.int .i64 (now + 1))).setCell 1 (.slice (some ⟨ga, 0, none⟩) n ca)).setCell 2 (.slice (some ⟨gb, 0, none⟩) n cb)
      obtain ⟨q0, q1, q2, qf⟩ := q.cells3
      refine bodyPost_ret (v := .tuple #[rv (now + 1) (some ⟨ga, 0, none⟩) n ca (some ⟨gb, 0, none⟩) n cb, .int .i64 0]) (by simp [results, Tryz.results40, go_sem, q0, q1, q2]) rfl ⟨some ⟨ga, 0, none⟩, n, ca, some ⟨gb, 0, none⟩, n, cb, rfl, ?_, ?_⟩
      · refine ⟨?_, ?_, fun a b e1 e2 => by simp at e1 e2; omega, hn, hn⟩
        · rw [E'.out]
          exact ((((HHx.out.oa.stored k _).far (p := ⟨w.heap.size + 1 + 1, 0, none⟩) (by have := HZZ.out; simp; omega) _).far (p := ⟨w.heap.size + 1 + 1, 1, none⟩) (by have := HZZ.out; simp; omega) _).far (p := ⟨w.heap.size + 1 + 1, 2, none⟩) (by have := HZZ.out; simp; omega) _).mono (by have := HZZ.out; omega)
        · rw [E.out]
          exact ((((HHx.out.ob.far (p := ⟨ga, k, none⟩) (Ne.symm d1) _).far (p := ⟨w.heap.size + 1 + 1, 0, none⟩) (Ne.symm n1) _).far (p := ⟨w.heap.size + 1 + 1, 1, none⟩) (Ne.symm n1) _).far (p := ⟨w.heap.size + 1 + 1, 2, none⟩) (Ne.symm n1) _).mono (by have := HZZ.out; omega)
      · exact ((((below_then HB.out HBx.out).setCell n2 _).setCell (by simp; omega) _).setCell (by simp; omega) _).setCell (by simp; omega) _
end Go.Proofs.YtfipdoofgbjbjaaGreat
