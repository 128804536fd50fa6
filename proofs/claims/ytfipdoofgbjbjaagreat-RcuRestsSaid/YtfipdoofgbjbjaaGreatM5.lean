/- Walks and plain laws for this claim, part 5. No condition but sizes. -/
import Derived.Test.YtfipdoofgbjbjaaGreatM4
import Derived.Test.YtfipdoofgbjbjaaGreatM3
/- package rcu: enter, leave. No condition but sizes. -/
namespace Go.Proofs.YtfipdoofgbjbjaaGreat
open Go.RowKit
attribute [local go_sem] Oper.semAt_some
theorem Om.stored2 {α : Type} {enc : α → Nat → Value} {w : World} {lo : Nat} {e : TypeId} {g n c : Nat} {xs : List α} (h : Om 2 enc w lo e (some ⟨g, 0, none⟩) n c xs) (i : Nat) (s : α) (hi : i < n) :
    Om 2 enc ((w.setCell ⟨g, i * 2, none⟩ (enc s 0)).setCell ⟨g, i * 2 + 1, none⟩ (enc s 1)) lo e (some ⟨g, 0, none⟩) n c (xs.set i s) := by
  refine ⟨by rw [List.length_set, h.len], ?_⟩
  rw [flat_set2, if_pos (by rw [h.len]; exact hi)]
  exact ((h.own.stored (i * 2) (enc s 0)).1.stored (i * 2 + 1) (enc s 1)).1
section
variable {w w' : World} {l gc : Nat} {s : St} {g : Gr} {es : List Qe} {is what : Int} {ran : List Int} {a : Ra} {R : Option Addr} {nr kr : Nat}
/-- its box is stored to -/
theorem CA.stored (h : CA w l gc s g es is what ran a R nr kr) (hg : w.grownBy w' (some gc)) {s' : St} {g' : Gr} {a' : Ra} {is' what' : Int} (hb : Blk w' gc 78 (ccells s' g' a' is' what' R nr kr)) (hro : Rown w l a'.A a'.n a'.k a'.B a'.m a'.d s'.2.1 s'.2.2)
    (hgd : Ow blv w l 4 a'.D g'.nd.length a'.kd g'.nd) (h1 : a'.Q = a.Q) (h2 : a'.nq = a.nq) (h3 : a'.kq = a.kq) : CA w' l gc s' g' es is' what' ran a' R nr kr := by
  refine ⟨hb, hro.keptR h.box (by decide) hg, hgd.keptR h.box (by decide) hg, by rw [h1, h2, h3]; exact h.qs.keptR h.box (by decide) hg, h.rn.keptR h.box (by decide) hg, fun x hx => ?_, h.lg⟩
  rw [h1]
  obtain ⟨k1, k2, k3, k4, k5⟩ := h.qe x hx
  exact ⟨k1.keptP (GrownP.ofGrown (p := fun i => i = gc) hg rfl) (fun hn b hb e => k5 hn b hb (.inl e)), k2, k3, k4, k5⟩
/-- a queue is stored -/
theorem CA.put (h : CA w l gc s g es is what ran a R nr kr) {gQ k : Nat} (hQ : a.Q = some ⟨gQ, 0, none⟩) (hk : k < a.nq) (x : Qe) (hx : QeO w l (CS gc a.Q R) x) :
    CA ((w.setCell ⟨gQ, k * 2, none⟩ (encQ x 0)).setCell ⟨gQ, k * 2 + 1, none⟩ (encQ x 1)) l gc s g (es.set k x) is what ran a R nr kr := by
  have hg : w.grownBy ((w.setCell ⟨gQ, k * 2, none⟩ (encQ x 0)).setCell ⟨gQ, k * 2 + 1, none⟩ (encQ x 1)) (some gQ) := grown_set (grown_set (World.grownBy.refl _ _) _ _) _ _
  obtain ⟨_, cs, hbq⟩ := h.qs.blk _ hQ
  have hst : ∀ y, QeO w l (CS gc a.Q R) y → QeO ((w.setCell ⟨gQ, k * 2, none⟩ (encQ x 0)).setCell ⟨gQ, k * 2 + 1, none⟩ (encQ x 1)) l (CS gc a.Q R) y := fun y ⟨k1, k2, k3, k4, k5⟩ =>
    ⟨k1.keptP (GrownP.ofGrown (p := fun i => i = gQ) hg rfl) (fun hn b hb e => k5 hn b hb (.inr (.inl ⟨_, hQ, e⟩))), k2, k3, k4, k5⟩
  refine ⟨h.box.grown hg (fun e => h.qs.ne_blk h.box (by decide) _ hQ (Option.some.inj e).symm), h.ro.keptR hbq (by decide) hg, h.gd.keptR hbq (by decide) hg, ?_, h.rn.keptR hbq (by decide) hg, fun y hy => ?_, h.lg⟩
  · have := h.qs
    rw [hQ] at this ⊢
    exact this.stored2 k x hk
  · rcases List.mem_or_eq_of_mem_set hy with hy | rfl
    · exact hst y (h.qe y hy)
    · exact hst _ hx
/-- a queue, read off its cells -/
theorem CA.q_at (h : CA w l gc s g es is what ran a R nr kr) {k : Nat} (hk : k < a.nq) : ∃ gQ, a.Q = some ⟨gQ, 0, none⟩ ∧ w.cell? ⟨gQ, k * 2, none⟩ = some (.slice (es[k]?.getD zQe).A (es[k]?.getD zQe).n (es[k]?.getD zQe).c) ∧ w.cell? ⟨gQ, k * 2 + 1, none⟩ = some (.int .u64 (es[k]?.getD zQe).o) ∧ (∀ i, w.frozen? ⟨gQ, i, none⟩ = false) ∧ es[k]?.getD zQe ∈ es := by
  obtain ⟨gQ, h1, h2, h3, h4, h5⟩ := h.qs.at_ zQe hk
  refine ⟨gQ, h1, h4 0 (by omega), h4 1 (by omega), h5, ?_⟩
  have hl : k < es.length := by rw [h.qs.len]; exact hk
  rw [List.getElem?_eq_getElem hl]
  exact List.getElem_mem _
end
set_option maxRecDepth 100000 in
set_option maxHeartbeats 4000000 in
theorem renter_yes (l gc : Nat) (s : St) (g : Gr) (es : List Qe) (is what : Int) (ran : List Int) (a : Ra) (R : Option Addr) (nr kr : Nat) (w : World) (h : CA w l gc s g es is what ran a R nr kr) (hg : Good s.1 s.2.1 s.2.2) (hs : stC s (is, true) = 0) :
    Calls Tryz.prog 72 #[ptr gc] w fun x w' => x = .returned (.tuple #[]) ∧ (∃ a', a'.Q = a.Q ∧ a'.nq = a.nq ∧ a'.kq = a.kq ∧ CA w' l gc (stN s (is, true)) g es is what ran a' R nr kr) ∧ GrownP (CS gc a.Q R) w w' := by
  obtain ⟨A, n, k, B, m, d, D, kd, Q, nq, kq⟩ := a
  obtain ⟨now, ns, os⟩ := s
  have HC := hid h; have HB := hid (Below.refl w.heap.size w); have HG := hid hg; have HS := hid hs
  clear h hg hs
  go_enter Tryz.func72, Tryz.ntmps72
  go_upto_region 0 with fail
  have hon := hid (show oneF now ns os (is, true) = (0, stN (now, ns, os) (is, true)) from oneF_ok HG.out HS.out)
  obtain ⟨sn, hsn⟩ : ∃ x, x = stN (now, ns, os) (is, true) := ⟨_, rfl⟩
  rw [← hsn] at hon ⊢
  clear hsn
  obtain ⟨nw, nss, oss⟩ := sn
  have hlw := hid (show gc < w.heap.size from HC.out.box.lt)
  have bx := (Below.refl w.heap.size w).drew
  replace HC := hid (HC.out.step bx); replace HB := hid (below_then HB.out bx)
  clear bx
  have hszd := hid (show w.drew.heap.size = w.heap.size from rfl)
  refine wp_region_noPanic ?_
  refine wp_region_held_tail 14 (fun W' : World => W'.cell? ⟨gc, 0, none⟩ = some (.int .i64 now) ∧ W'.cell? ⟨gc, 1, none⟩ = some (.slice A n k) ∧ W'.cell? ⟨gc, 2, none⟩ = some (.slice B m d) ∧ W'.cell? ⟨gc, 8, none⟩ = some (.int .i64 is)) #[false, false, false, false, false, false, false, false, false, false, false, false, false, false, false, false, false, false] (by kernel_rfl) ⟨(HC.out.box).cells11.1, (HC.out.box).cells11.2.1, (HC.out.box).cells11.2.2.1, (HC.out.box).cells11.2.2.2.2.2.2.2.2.1⟩ (by kernel_rfl) (by kernel_rfl) (fun hS => ?_)
  generalize w.drew = Wd at *
  refine tkT 0 hS ?_
  refine tkT 1 hS ?_
  refine tkT 2 hS ?_
  refine tkT 3 hS ?_
  refine tkT 4 hS ?_
  refine tkT 5 hS ?_
  refine tkT 6 hS ?_
  refine tkT 7 hS ?_
  refine tkT 8 hS ?_
  refine tkT 9 hS ?_
  refine rdyT [10] (csyT (fun K hK => ?_) AllReadyT.nil)
  go_simp
  refine ((show Calls Tryz.prog 115 #[rv now A n k B m d, .int .i64 is] _ (OnePost _ (0, nw, nss, oss)) from hon.out ▸ enter1_any now A n k B m d ns os is _ HC.out.ro.rds)).mono ?_
  rintro e w10 ⟨A1, n1, c1, B1, m1, d1, rfl, hro, hb⟩
  have hsz0 := hid (show Wd.heap.size ≤ w10.heap.size from hb.size)
  replace HC := hid (HC.out.step hb); replace HB := hid (below_then HB.out hb)
  clear hb
  have RO := hid (hro.mono (show l ≤ _ by have := HC.out.lg; have := hlw.out; have := hszd.out; omega))
  clear hro
  go_wp2_with fail
  clear hS
  refine kyT hK ⟨(HC.out.box).cells11.1, (HC.out.box).cells11.2.1, (HC.out.box).cells11.2.2.1, (HC.out.box).cells11.2.2.2.2.2.2.2.2.1⟩ fun hS => ?_
  clear hK K
  refine tkT 11 hS ?_
  refine tkT 12 hS ?_
  refine rdyT [13] (csyT (fun K hK => ?_) AllReadyT.nil)
  go_simp
  refine (sureR_yes nw A1 n1 c1 B1 m1 d1 _).mono ?_
  rintro e w13 ⟨rfl, hb⟩
  have hsz1 := hid (show w10.heap.size ≤ w13.heap.size from hb.size)
  replace HC := hid (HC.out.step hb); replace RO := hid (RO.out.step hb); replace HB := hid (below_then HB.out hb)
  clear hb
  go_wp2_with fail
  clear hS
  refine kyT hK ⟨(HC.out.box).cells11.1, (HC.out.box).cells11.2.1, (HC.out.box).cells11.2.2.1, (HC.out.box).cells11.2.2.2.2.2.2.2.2.1⟩ fun hS => ?_
  clear hK K
  refine wpAnyT_done (by kernel_rfl) ?_
  simp only [List.drop_succ_cons, List.drop_zero]
  clear hS
  obtain ⟨y0, y1, y2, y3, y4, y5, y6, y7, y8, y9, y10, yf⟩ := HC.out.box.cells11
  go_wp2_with fail
  refine NoPanic.normal ?_
  clear y0 y1 y2 y3 y4 y5 y6 y7 y8 y9 y10 yf
  (try go_end0)
  have hgr := grown_set (grown_set (grown_set (World.grownBy.refl w13 (some gc)) 0 (.int .i64 nw)) 1 (.slice A1 n1 c1)) 2 (.slice B1 m1 d1)
  refine ⟨rfl, ⟨⟨A1, n1, c1, B1, m1, d1, D, kd, Q, nq, kq⟩, rfl, rfl, rfl, HC.out.stored hgr (((HC.out.box.setCell 0 _).setCell 1 _).setCell 2 _) RO.out HC.out.gd rfl rfl rfl⟩, ((GrownP.ofBelow (p := CS gc Q R) HB.out).trans (GrownP.ofGrown hgr (.inl rfl)))⟩
set_option maxRecDepth 100000 in
set_option maxHeartbeats 4000000 in
theorem renter_no (l gc : Nat) (s : St) (g : Gr) (es : List Qe) (is what : Int) (ran : List Int) (a : Ra) (R : Option Addr) (nr kr : Nat) (w : World) (h : CA w l gc s g es is what ran a R nr kr) (hg : Good s.1 s.2.1 s.2.2) (hs : stC s (is, true) ≠ 0) :
    Calls Tryz.prog 72 #[ptr gc] w fun x w' => x = Go.Proofs.YtfipdoofgbjbjaaGreat.leaves (stC s (is, true)) ∧ Below w.heap.size w w' := by
  obtain ⟨A, n, k, B, m, d, D, kd, Q, nq, kq⟩ := a
  obtain ⟨now, ns, os⟩ := s
  have HC := hid h; have HB := hid (Below.refl w.heap.size w); have HG := hid hg; have HS := hid hs
  clear h hg hs
  go_enter Tryz.func72, Tryz.ntmps72
  go_upto_region 0 with fail
  have hon := hid (show oneF now ns os (is, true) = (stC (now, ns, os) (is, true), (0, [], [])) from oneF_err HG.out HS.out)
  obtain ⟨cd, hcd⟩ : ∃ x, x = stC (now, ns, os) (is, true) := ⟨_, rfl⟩
  rw [← hcd] at hon HS ⊢
  clear hcd
  have bx := (Below.refl w.heap.size w).drew
  replace HC := hid (HC.out.step bx); replace HB := hid (below_then HB.out bx)
  clear bx
  have hszd := hid (show w.drew.heap.size = w.heap.size from rfl)
  refine wp_region_qp ?_
  refine wp_region_held_drew (S := (fun W' : World => W'.cell? ⟨gc, 0, none⟩ = some (.int .i64 now) ∧ W'.cell? ⟨gc, 1, none⟩ = some (.slice A n k) ∧ W'.cell? ⟨gc, 2, none⟩ = some (.slice B m d) ∧ W'.cell? ⟨gc, 8, none⟩ = some (.int .i64 is))) (by kernel_rfl) ⟨(HC.out.box).cells11.1, (HC.out.box).cells11.2.1, (HC.out.box).cells11.2.2.1, (HC.out.box).cells11.2.2.2.2.2.2.2.2.1⟩ (fun hS => ?_)
  generalize w.drew = Wd at *
  refine tk 0 hS ?_ (hQ := fun _ _ _ h => QP.put h)
  refine tk 1 hS ?_ (hQ := fun _ _ _ h => QP.put h)
  refine tk 2 hS ?_ (hQ := fun _ _ _ h => QP.put h)
  refine tk 3 hS ?_ (hQ := fun _ _ _ h => QP.put h)
  refine tk 4 hS ?_ (hQ := fun _ _ _ h => QP.put h)
  refine tk 5 hS ?_ (hQ := fun _ _ _ h => QP.put h)
  refine tk 6 hS ?_ (hQ := fun _ _ _ h => QP.put h)
  refine tk 7 hS ?_ (hQ := fun _ _ _ h => QP.put h)
  refine tk 8 hS ?_ (hQ := fun _ _ _ h => QP.put h)
  refine tk 9 hS ?_ (hQ := fun _ _ _ h => QP.put h)
  refine rdy [10] (csy (fun K hK => ?_) AllReadyH.nil)
  go_simp
  refine ((show Calls Tryz.prog 115 #[rv now A n k B m d, .int .i64 is] _ (OnePost _ (cd, 0, [], [])) from hon.out ▸ enter1_any now A n k B m d ns os is _ HC.out.ro.rds)).mono ?_
  rintro e w10 ⟨A1, n1, c1, B1, m1, d1, rfl, hro, hb⟩
  have hsz0 := hid (show Wd.heap.size ≤ w10.heap.size from hb.size)
  replace HC := hid (HC.out.step hb); replace HB := hid (below_then HB.out hb)
  clear hb
  clear hro
  go_wp2_with fail
  clear hS
  refine ky hK ⟨(HC.out.box).cells11.1, (HC.out.box).cells11.2.1, (HC.out.box).cells11.2.2.1, (HC.out.box).cells11.2.2.2.2.2.2.2.2.1⟩ fun hS => ?_
  clear hK K
  refine tk 11 hS ?_ (hQ := fun _ _ _ h => QP.put h)
  refine tk 12 hS ?_ (hQ := fun _ _ _ h => QP.put h)
  refine rdy [13] (csy (fun K hK => ?_) AllReadyH.nil)
  go_simp
  refine (sureR_no 0 A1 n1 c1 B1 m1 d1 cd w10 HS.out).mono ?_
  rintro e Wp ⟨rfl, hb⟩
  unfold Go.Proofs.YtfipdoofgbjbjaaGreat.leaves
  intro tm
  refine (?_ : bodyPost Tryz.prog Tryz.f72 _ _ _ _)
  exact ⟨rfl, rfl, below_then HB.out hb⟩
set_option maxRecDepth 100000 in
set_option maxHeartbeats 4000000 in
theorem rleave_yes (l gc : Nat) (s : St) (g : Gr) (es : List Qe) (is what : Int) (ran : List Int) (a : Ra) (R : Option Addr) (nr kr : Nat) (w : World) (h : CA w l gc s g es is what ran a R nr kr) (hg : Good s.1 s.2.1 s.2.2) (hs : stC s (is, false) = 0) :
    Calls Tryz.prog 73 #[ptr gc] w fun x w' => x = .returned (.tuple #[]) ∧ (∃ a', a'.Q = a.Q ∧ a'.nq = a.nq ∧ a'.kq = a.kq ∧ CA w' l gc (stN s (is, false)) g es is what ran a' R nr kr) ∧ GrownP (CS gc a.Q R) w w' := by
  obtain ⟨A, n, k, B, m, d, D, kd, Q, nq, kq⟩ := a
  obtain ⟨now, ns, os⟩ := s
  have HC := hid h; have HB := hid (Below.refl w.heap.size w); have HG := hid hg; have HS := hid hs
  clear h hg hs
  go_enter Tryz.func73, Tryz.ntmps73
  go_upto_region 0 with fail
  have hon := hid (show oneF now ns os (is, false) = (0, stN (now, ns, os) (is, false)) from oneF_ok HG.out HS.out)
  obtain ⟨sn, hsn⟩ : ∃ x, x = stN (now, ns, os) (is, false) := ⟨_, rfl⟩
  rw [← hsn] at hon ⊢
  clear hsn
  obtain ⟨nw, nss, oss⟩ := sn
  have hlw := hid (show gc < w.heap.size from HC.out.box.lt)
  have bx := (Below.refl w.heap.size w).drew
  replace HC := hid (HC.out.step bx); replace HB := hid (below_then HB.out bx)
  clear bx
  have hszd := hid (show w.drew.heap.size = w.heap.size from rfl)
  refine wp_region_noPanic ?_
  refine wp_region_held_tail 14 (fun W' : World => W'.cell? ⟨gc, 0, none⟩ = some (.int .i64 now) ∧ W'.cell? ⟨gc, 1, none⟩ = some (.slice A n k) ∧ W'.cell? ⟨gc, 2, none⟩ = some (.slice B m d) ∧ W'.cell? ⟨gc, 8, none⟩ = some (.int .i64 is)) #[false, false, false, false, false, false, false, false, false, false, false, false, false, false, false, false, false, false] (by kernel_rfl) ⟨(HC.out.box).cells11.1, (HC.out.box).cells11.2.1, (HC.out.box).cells11.2.2.1, (HC.out.box).cells11.2.2.2.2.2.2.2.2.1⟩ (by kernel_rfl) (by kernel_rfl) (fun hS => ?_)
  generalize w.drew = Wd at *
  refine tkT 0 hS ?_
  refine tkT 1 hS ?_
  refine tkT 2 hS ?_
  refine tkT 3 hS ?_
  refine tkT 4 hS ?_
  refine tkT 5 hS ?_
  refine tkT 6 hS ?_
  refine tkT 7 hS ?_
  refine tkT 8 hS ?_
  refine tkT 9 hS ?_
  refine rdyT [10] (csyT (fun K hK => ?_) AllReadyT.nil)
  go_simp
  refine ((show Calls Tryz.prog 116 #[rv now A n k B m d, .int .i64 is] _ (OnePost _ (0, nw, nss, oss)) from hon.out ▸ leave1_any now A n k B m d ns os is _ HC.out.ro.rds)).mono ?_
  rintro e w10 ⟨A1, n1, c1, B1, m1, d1, rfl, hro, hb⟩
  have hsz0 := hid (show Wd.heap.size ≤ w10.heap.size from hb.size)
  replace HC := hid (HC.out.step hb); replace HB := hid (below_then HB.out hb)
  clear hb
  have RO := hid (hro.mono (show l ≤ _ by have := HC.out.lg; have := hlw.out; have := hszd.out; omega))
  clear hro
  go_wp2_with fail
  clear hS
  refine kyT hK ⟨(HC.out.box).cells11.1, (HC.out.box).cells11.2.1, (HC.out.box).cells11.2.2.1, (HC.out.box).cells11.2.2.2.2.2.2.2.2.1⟩ fun hS => ?_
  clear hK K
  refine tkT 11 hS ?_
  refine tkT 12 hS ?_
  refine rdyT [13] (csyT (fun K hK => ?_) AllReadyT.nil)
  go_simp
  refine (sureR_yes nw A1 n1 c1 B1 m1 d1 _).mono ?_
  rintro e w13 ⟨rfl, hb⟩
  have hsz1 := hid (show w10.heap.size ≤ w13.heap.size from hb.size)
  replace HC := hid (HC.out.step hb); replace RO := hid (RO.out.step hb); replace HB := hid (below_then HB.out hb)
  clear hb
  go_wp2_with fail
  clear hS
  refine kyT hK ⟨(HC.out.box).cells11.1, (HC.out.box).cells11.2.1, (HC.out.box).cells11.2.2.1, (HC.out.box).cells11.2.2.2.2.2.2.2.2.1⟩ fun hS => ?_
  clear hK K
  refine wpAnyT_done (by kernel_rfl) ?_
  simp only [List.drop_succ_cons, List.drop_zero]
  clear hS
  obtain ⟨y0, y1, y2, y3, y4, y5, y6, y7, y8, y9, y10, yf⟩ := HC.out.box.cells11
  go_wp2_with fail
  refine NoPanic.normal ?_
  clear y0 y1 y2 y3 y4 y5 y6 y7 y8 y9 y10 yf
  (try go_end0)
  have hgr := grown_set (grown_set (grown_set (World.grownBy.refl w13 (some gc)) 0 (.int .i64 nw)) 1 (.slice A1 n1 c1)) 2 (.slice B1 m1 d1)
  refine ⟨rfl, ⟨⟨A1, n1, c1, B1, m1, d1, D, kd, Q, nq, kq⟩, rfl, rfl, rfl, HC.out.stored hgr (((HC.out.box.setCell 0 _).setCell 1 _).setCell 2 _) RO.out HC.out.gd rfl rfl rfl⟩, ((GrownP.ofBelow (p := CS gc Q R) HB.out).trans (GrownP.ofGrown hgr (.inl rfl)))⟩
set_option maxRecDepth 100000 in
set_option maxHeartbeats 4000000 in
theorem rleave_no (l gc : Nat) (s : St) (g : Gr) (es : List Qe) (is what : Int) (ran : List Int) (a : Ra) (R : Option Addr) (nr kr : Nat) (w : World) (h : CA w l gc s g es is what ran a R nr kr) (hg : Good s.1 s.2.1 s.2.2) (hs : stC s (is, false) ≠ 0) :
    Calls Tryz.prog 73 #[ptr gc] w fun x w' => x = Go.Proofs.YtfipdoofgbjbjaaGreat.leaves (stC s (is, false)) ∧ Below w.heap.size w w' := by
  obtain ⟨A, n, k, B, m, d, D, kd, Q, nq, kq⟩ := a
  obtain ⟨now, ns, os⟩ := s
  have HC := hid h; have HB := hid (Below.refl w.heap.size w); have HG := hid hg; have HS := hid hs
  clear h hg hs
  go_enter Tryz.func73, Tryz.ntmps73
  go_upto_region 0 with fail
  have hon := hid (show oneF now ns os (is, false) = (stC (now, ns, os) (is, false), (0, [], [])) from oneF_err HG.out HS.out)
  obtain ⟨cd, hcd⟩ : ∃ x, x = stC (now, ns, os) (is, false) := ⟨_, rfl⟩
  rw [← hcd] at hon HS ⊢
  clear hcd
  have bx := (Below.refl w.heap.size w).drew
  replace HC := hid (HC.out.step bx); replace HB := hid (below_then HB.out bx)
  clear bx
  have hszd := hid (show w.drew.heap.size = w.heap.size from rfl)
  refine wp_region_qp ?_
  refine wp_region_held_drew (S := (fun W' : World => W'.cell? ⟨gc, 0, none⟩ = some (.int .i64 now) ∧ W'.cell? ⟨gc, 1, none⟩ = some (.slice A n k) ∧ W'.cell? ⟨gc, 2, none⟩ = some (.slice B m d) ∧ W'.cell? ⟨gc, 8, none⟩ = some (.int .i64 is))) (by kernel_rfl) ⟨(HC.out.box).cells11.1, (HC.out.box).cells11.2.1, (HC.out.box).cells11.2.2.1, (HC.out.box).cells11.2.2.2.2.2.2.2.2.1⟩ (fun hS => ?_)
  generalize w.drew = Wd at *
  refine tk 0 hS ?_ (hQ := fun _ _ _ h => QP.put h)
  refine tk 1 hS ?_ (hQ := fun _ _ _ h => QP.put h)
  refine tk 2 hS ?_ (hQ := fun _ _ _ h => QP.put h)
  refine tk 3 hS ?_ (hQ := fun _ _ _ h => QP.put h)
  refine tk 4 hS ?_ (hQ := fun _ _ _ h => QP.put h)
  refine tk 5 hS ?_ (hQ := fun _ _ _ h => QP.put h)
  refine tk 6 hS ?_ (hQ := fun _ _ _ h => QP.put h)
  refine tk 7 hS ?_ (hQ := fun _ _ _ h => QP.put h)
  refine tk 8 hS ?_ (hQ := fun _ _ _ h => QP.put h)
  refine tk 9 hS ?_ (hQ := fun _ _ _ h => QP.put h)
  refine rdy [10] (csy (fun K hK => ?_) AllReadyH.nil)
  go_simp
  refine ((show Calls Tryz.prog 116 #[rv now A n k B m d, .int .i64 is] _ (OnePost _ (cd, 0, [], [])) from hon.out ▸ leave1_any now A n k B m d ns os is _ HC.out.ro.rds)).mono ?_
  rintro e w10 ⟨A1, n1, c1, B1, m1, d1, rfl, hro, hb⟩
  have hsz0 := hid (show Wd.heap.size ≤ w10.heap.size from hb.size)
  replace HC := hid (HC.out.step hb); replace HB := hid (below_then HB.out hb)
  clear hb
  clear hro
  go_wp2_with fail
  clear hS
  refine ky hK ⟨(HC.out.box).cells11.1, (HC.out.box).cells11.2.1, (HC.out.box).cells11.2.2.1, (HC.out.box).cells11.2.2.2.2.2.2.2.2.1⟩ fun hS => ?_
  clear hK K
  refine tk 11 hS ?_ (hQ := fun _ _ _ h => QP.put h)
  refine tk 12 hS ?_ (hQ := fun _ _ _ h => QP.put h)
  refine rdy [13] (csy (fun K hK => ?_) AllReadyH.nil)
  go_simp
  refine (sureR_no 0 A1 n1 c1 B1 m1 d1 cd w10 HS.out).mono ?_
  rintro e Wp ⟨rfl, hb⟩
  unfold Go.Proofs.YtfipdoofgbjbjaaGreat.leaves
  intro tm
  refine (?_ : bodyPost Tryz.prog Tryz.f73 _ _ _ _)
  exact ⟨rfl, rfl, below_then HB.out hb⟩
end Go.Proofs.YtfipdoofgbjbjaaGreat

/- package rcu: run. No condition but sizes. -/
namespace Go.Proofs.YtfipdoofgbjbjaaGreat
open Go.RowKit
attribute [local go_sem] Oper.semAt_some
theorem GrownP.step {q : Nat → Prop} {w a b : World} (h : GrownP q w a) (k : Below a.heap.size a b) : GrownP q w b := h.thenB k h.size
/-- what a cpu holds, but for its box -/
structure CX (w : World) (l gc : Nat) (s : St) (g : Gr) (es : List Qe) (ran : List Int) (a : Ra) (R : Option Addr) (nr kr : Nat) : Prop where
  ro : Rown w l a.A a.n a.k a.B a.m a.d s.2.1 s.2.2
  gd : Ow blv w l 4 a.D g.nd.length a.kd g.nd
  qs : Om 2 encQ w l 58 a.Q a.nq a.kq es
  rn : Ow u64v w l 35 R nr kr ran
  qe : ∀ x ∈ es, QeO w l (CS gc a.Q R) x
  lg : l ≤ gc
section
variable {w w' : World} {l gc : Nat} {s : St} {g : Gr} {es : List Qe} {is what : Int} {ran : List Int} {a : Ra} {R : Option Addr} {nr kr : Nat}
theorem CA.cx (h : CA w l gc s g es is what ran a R nr kr) : CX w l gc s g es ran a R nr kr := ⟨h.ro, h.gd, h.qs, h.rn, h.qe, h.lg⟩
theorem CX.ca (h : CX w l gc s g es ran a R nr kr) (hb : Blk w gc 78 (ccells s g a is what R nr kr)) : CA w l gc s g es is what ran a R nr kr := ⟨hb, h.ro, h.gd, h.qs, h.rn, h.qe, h.lg⟩
theorem CX.step (h : CX w l gc s g es ran a R nr kr) (hb : Below w.heap.size w w') : CX w' l gc s g es ran a R nr kr :=
  ⟨h.ro.step hb, h.gd.step hb, h.qs.step hb, h.rn.step hb, fun x hx => (h.qe x hx).step hb, h.lg⟩
theorem CX.lts (h : CX w l gc s g es ran a R nr kr) : (∀ b, a.Q = some b → b.block < w.heap.size) ∧ ∀ x ∈ es, 0 < x.n → ∀ b, x.A = some b → b.block < w.heap.size := by
  refine ⟨fun b hb => ?_, fun x hx hn b hb => ?_⟩
  · obtain ⟨_, cs, q⟩ := h.qs.blk b hb; exact q.lt
  · obtain ⟨b', off, e, _, h2, _⟩ := (h.qe x hx).1.sm.row hn
    rw [hb] at e; cases e; exact h2
/-- a box that is new to it is turned -/
theorem CX.turn (h : CX w l gc s g es ran a R nr kr) {q : Nat} {t : TypeId} {cs : Array Value} (hb : Blk w q t cs) (h2 : t ≠ 3) (h3 : t ≠ 4) (h4 : t ≠ 35)
    (hq : ∀ b, a.Q = some b → b.block ≠ q) (hf : ∀ x ∈ es, 0 < x.n → ∀ b, x.A = some b → b.block ≠ q) (hg : w.grownBy w' (some q)) : CX w' l gc s g es ran a R nr kr :=
  ⟨h.ro.keptR hb h2 hg, h.gd.keptR hb h3 hg, h.qs.keptG hg (fun b hb e => hq b hb (Option.some.inj e)), h.rn.keptR hb h4 hg, fun x hx => by
    obtain ⟨k1, k2⟩ := h.qe x hx
    exact ⟨k1.keptP (GrownP.ofGrown (p := fun i => i = q) hg rfl) (fun hn b hb e => hf x hx hn b hb e), k2⟩, h.lg⟩
/-- its box is turned -/
theorem CX.boxed (h : CX w l gc s g es ran a R nr kr) {cs : Array Value} (hb : Blk w gc 78 cs) (hg : w.grownBy w' (some gc)) : CX w' l gc s g es ran a R nr kr :=
  ⟨h.ro.keptR hb (by decide) hg, h.gd.keptR hb (by decide) hg, h.qs.keptR hb (by decide) hg, h.rn.keptR hb (by decide) hg, fun x hx => by
    obtain ⟨k1, k2, k3, k4, k5⟩ := h.qe x hx
    exact ⟨k1.keptP (GrownP.ofGrown (p := fun i => i = gc) hg rfl) (fun hn b hb e => k5 hn b hb (.inl e)), k2, k3, k4, k5⟩, h.lg⟩
/-- a queue is stored -/
theorem CX.put (h : CX w l gc s g es ran a R nr kr) {gQ k : Nat} (hQ : a.Q = some ⟨gQ, 0, none⟩) (hk : k < a.nq) (x : Qe) (hx : QeO w l (CS gc a.Q R) x) :
    CX ((w.setCell ⟨gQ, k * 2, none⟩ (encQ x 0)).setCell ⟨gQ, k * 2 + 1, none⟩ (encQ x 1)) l gc s g (es.set k x) ran a R nr kr := by
  have hg : w.grownBy ((w.setCell ⟨gQ, k * 2, none⟩ (encQ x 0)).setCell ⟨gQ, k * 2 + 1, none⟩ (encQ x 1)) (some gQ) := grown_set (grown_set (World.grownBy.refl _ _) _ _) _ _
  obtain ⟨_, cs, hbq⟩ := h.qs.blk _ hQ
  have hst : ∀ y, QeO w l (CS gc a.Q R) y → QeO ((w.setCell ⟨gQ, k * 2, none⟩ (encQ x 0)).setCell ⟨gQ, k * 2 + 1, none⟩ (encQ x 1)) l (CS gc a.Q R) y := fun y ⟨k1, k2, k3, k4, k5⟩ =>
    ⟨k1.keptP (GrownP.ofGrown (p := fun i => i = gQ) hg rfl) (fun hn b hb e => k5 hn b hb (.inr (.inl ⟨_, hQ, e⟩))), k2, k3, k4, k5⟩
  refine ⟨h.ro.keptR hbq (by decide) hg, h.gd.keptR hbq (by decide) hg, ?_, h.rn.keptR hbq (by decide) hg, fun y hy => ?_, h.lg⟩
  · have := h.qs
    rw [hQ] at this ⊢
    exact this.stored2 k x hk
  · rcases List.mem_or_eq_of_mem_set hy with hy | rfl
    · exact hst y (h.qe y hy)
    · exact hst _ hx
theorem CX.q_at (h : CX w l gc s g es ran a R nr kr) {k : Nat} (hk : k < a.nq) : ∃ gQ, a.Q = some ⟨gQ, 0, none⟩ ∧ w.cell? ⟨gQ, k * 2, none⟩ = some (.slice (es[k]?.getD zQe).A (es[k]?.getD zQe).n (es[k]?.getD zQe).c) ∧ w.cell? ⟨gQ, k * 2 + 1, none⟩ = some (.int .u64 (es[k]?.getD zQe).o) ∧ (∀ i, w.frozen? ⟨gQ, i, none⟩ = false) ∧ es[k]?.getD zQe ∈ es := by
  obtain ⟨gQ, h1, h2, h3, h4, h5⟩ := h.qs.at_ zQe hk
  refine ⟨gQ, h1, h4 0 (by omega), h4 1 (by omega), h5, ?_⟩
  have hl : k < es.length := by rw [h.qs.len]; exact hk
  rw [List.getElem?_eq_getElem hl]
  exact List.getElem_mem _
/-- a word is appended to what was run -/
theorem CX.app (h : CX w l gc s g es ran a R nr kr) {R' : Option Addr} {m k' : Nat} {ran' : List Int} (ho : Ow u64v w' l 35 R' m k' ran') (hg : w.grownBy w' (Value.slice R nr kr).ownBlock)
    (hat : (Value.slice R' m k').ownBlock = (Value.slice R nr kr).ownBlock ∨ (Value.slice R' m k').ownBlock = some w.heap.size) : CX w' l gc s g es ran' a R' m k' := by
  have hlt := h.lts
  refine ⟨⟨h.ro.oa.keptO h.rn (by decide) hg, h.ro.ob.keptO h.rn (by decide) hg, h.ro.apart, h.ro.hn, h.ro.hm⟩, h.gd.keptO h.rn (by decide) hg, h.qs.keptO h.rn (by decide) hg, ho, fun x hx => ?_, h.lg⟩
  obtain ⟨k1, k2, k3, k4, k5⟩ := h.qe x hx
  have hgp : GrownP (fun i => some i = (Value.slice R nr kr).ownBlock) w w' := ⟨hg.os, hg.tape, hg.output, hg.size, fun i hi hn => hg.block i hi hn⟩
  refine ⟨k1.keptP hgp (fun hn b hb e => ?_), k2, k3, k4, fun hn b hb e => ?_⟩
  · obtain ⟨r, hr, hrb⟩ := own_addr e.symm
    exact k5 hn b hb (.inr (.inr ⟨r, hr, hrb.symm⟩))
  · rcases e with e | e | ⟨r, hr, e⟩
    · exact k5 hn b hb (.inl e)
    · exact k5 hn b hb (.inr (.inl e))
    · have e1 : (Value.slice R' m k').ownBlock = some r.block := by rw [hr]; rfl
      rcases hat with h1 | h1
      · rw [e1] at h1
        obtain ⟨r2, hr2, hrb⟩ := own_addr h1.symm
        exact k5 hn b hb (.inr (.inr ⟨r2, hr2, e.trans hrb.symm⟩))
      · rw [e1] at h1
        have h2 := Option.some.inj h1
        have := hlt.2 x hx hn b hb
        omega
end
theorem QeO.fresh {w : World} {l lo : Nat} {x : Qe} {gc : Nat} {Q R : Option Addr} (h : Qown w lo x.A x.n x.l) (hl : l ≤ lo) (h1 : x.n ≤ x.c) (h2 : x.n ≤ 1000) (h3 : 0 ≤ x.o ∧ x.o ≤ 18446744073709551615) (hg : gc < lo) (hQ : ∀ b, Q = some b → b.block < lo) (hR : ∀ b, R = some b → b.block < lo) : QeO w l (CS gc Q R) x := by
  refine ⟨h.mono hl, h1, h2, h3, fun hn b hb e => ?_⟩
  obtain ⟨b', off, e1, h4, _, _⟩ := h.sm.row hn
  rw [hb] at e1; cases e1
  rcases e with e | ⟨q, hq, e⟩ | ⟨q, hq, e⟩
  · have : b' = gc := e
    omega
  · have := hQ q hq
    have : b' = q.block := e
    omega
  · have := hR q hq
    have : b' = q.block := e
    omega
theorem QeO.app {w w' : World} {l lo gc nr kr m k' : Nat} {Q R R' : Option Addr} {x : Qe} {ran : List Int} (hx : QeO w l (CS gc Q R) x) (hrn : Ow u64v w lo 35 R nr kr ran) (hg : w.grownBy w' (Value.slice R nr kr).ownBlock)
    (hat : (Value.slice R' m k').ownBlock = (Value.slice R nr kr).ownBlock ∨ (Value.slice R' m k').ownBlock = some w.heap.size) : QeO w' l (CS gc Q R') x := by
  obtain ⟨k1, k2, k3, k4, k5⟩ := hx
  have hgp : GrownP (fun i => some i = (Value.slice R nr kr).ownBlock) w w' := ⟨hg.os, hg.tape, hg.output, hg.size, fun i hi hn => hg.block i hi hn⟩
  refine ⟨k1.keptP hgp (fun hn b hb e => ?_), k2, k3, k4, fun hn b hb e => ?_⟩
  · obtain ⟨r, hr, hrb⟩ := own_addr e.symm
    exact k5 hn b hb (.inr (.inr ⟨r, hr, hrb.symm⟩))
  · rcases e with e | e | ⟨r, hr, e⟩
    · exact k5 hn b hb (.inl e)
    · exact k5 hn b hb (.inr (.inl e))
    · have e1 : (Value.slice R' m k').ownBlock = some r.block := by rw [hr]; rfl
      rcases hat with h1 | h1
      · rw [e1] at h1
        obtain ⟨r2, hr2, hrb⟩ := own_addr h1.symm
        exact k5 hn b hb (.inr (.inr ⟨r2, hr2, e.trans hrb.symm⟩))
      · rw [e1] at h1
        have h2 := Option.some.inj h1
        obtain ⟨b', off, e2, _, h4, _⟩ := k1.sm.row hn
        rw [hb] at e2; cases e2
        have : b' = r.block := e
        omega
theorem QeO.set {w w' : World} {l gc q : Nat} {Q R : Option Addr} {x : Qe} (hx : QeO w l (CS gc Q R) x) (hg : w.grownBy w' (some q)) (hq : CS gc Q R q) : QeO w' l (CS gc Q R) x := by
  obtain ⟨k1, k2, k3, k4, k5⟩ := hx
  exact ⟨k1.keptP (GrownP.ofGrown (p := fun i => i = q) hg rfl) (fun hn b hb e => k5 hn b hb (by rw [e]; exact hq)), k2, k3, k4, k5⟩
section
variable {w w' : World} {l gc : Nat} {s : St} {g : Gr} {es : List Qe} {ran : List Int} {a : Ra} {R : Option Addr} {nr kr gQ k xn xc : Nat} {xA : Option Addr} {xo : Int} {xl : List Cb}
theorem CX.q0 (h : CX w l gc s g es ran a R nr kr) (hQ : a.Q = some ⟨gQ, 0, none⟩) (hk : k < a.nq) (hx : es[k]?.getD zQe = ⟨xl, xo, xA, xn, xc⟩) : w.cell? ⟨gQ, k * 2, none⟩ = some (.slice xA xn xc) := by
  obtain ⟨g2, h1, h2, _⟩ := h.q_at hk
  rw [hQ] at h1; cases h1
  rw [hx] at h2; exact h2
theorem CX.q1 (h : CX w l gc s g es ran a R nr kr) (hQ : a.Q = some ⟨gQ, 0, none⟩) (hk : k < a.nq) (hx : es[k]?.getD zQe = ⟨xl, xo, xA, xn, xc⟩) : w.cell? ⟨gQ, k * 2 + 1, none⟩ = some (.int .u64 xo) := by
  obtain ⟨g2, h1, _, h2, _⟩ := h.q_at hk
  rw [hQ] at h1; cases h1
  rw [hx] at h2; exact h2
theorem CX.qsm (h : CX w l gc s g es ran a R nr kr) (hx : ⟨xl, xo, xA, xn, xc⟩ ∈ es) : Sm 2 encC (0, 0) w 0 w.heap.size xA xn xl := ((h.qe _ hx).1.mono (Nat.zero_le _)).sm
end
set_option maxRecDepth 100000 in
set_option maxHeartbeats 8000000 in
theorem rrun_yes (l gc : Nat) (s : St) (g : Gr) (es : List Qe) (cp : Nat) (what : Int) (ran : List Int) (a : Ra) (R : Option Addr) (nr kr : Nat) (w : World) (h : CA w l gc s g es cp what ran a R nr kr) (hk : cp < a.nq) (hnq : a.nq ≤ 1000) (x : Qe) (hx : es[cp]?.getD zQe = x) (o' : Int) (l' : List Cb) (v : Int) (ht : takeF x.o x.l = (o', l', v, 0)) (hon : 0 ≤ o' ∧ o' ≤ 18446744073709551615) (hln : l'.length ≤ 1000) (hnr : nr ≤ 1000000) :
    Calls Tryz.prog 51 #[ptr gc] w fun x' w' => x' = .returned (.tuple #[]) ∧ (∃ R' kr' A n c, CA w' l gc s g (es.set cp ⟨l', o', A, n, c⟩) cp what (ran ++ [v]) a R' (nr + 1) kr') ∧ GrownP (CS gc a.Q R) w w' := by
  have HLN := hid hln; have HON := hid hon; have HNR := hid hnr
  clear hln hon hnr
  obtain ⟨A, n, k, B, m, d, D, kd, Q, nq, kq⟩ := a
  obtain ⟨now, ns, os⟩ := s
  have hk : cp < nq := hk
  have hnq : nq ≤ 1000 := hnq
  have HB := hid (Below.refl w.heap.size w); have HX := hid h.cx; have PC := hid h.box
  obtain ⟨gQ, hQ, _, _, _, hmem⟩ := h.q_at hk
  have hQ : Q = some ⟨gQ, 0, none⟩ := hQ
  rw [hx] at hmem
  have HM := hid hmem; have HXX := hid hx; have HK := hid hk; have HLT := hid h.cx.lts; have HT := hid ht; have HQE := hid (h.qe x hmem); have hlw := hid (show gc < w.heap.size from h.box.lt)
  have HRL := hid (show ∀ b, R = some b → b.block < w.heap.size from fun b hb => by obtain ⟨_, cs, q⟩ := h.rn.blk b hb; exact q.lt)
  have hki : (cp : Int) < (nq : Int) := by omega
  clear h hk hx hmem ht
  subst hQ
  obtain ⟨xl, xo, xA, xn, xc⟩ := x
  dsimp only at HT HQE HM HXX
  have hgQ := hid (show gQ < w.heap.size from HLT.out.1 _ rfl)
  have hcq := hid (show gc ≠ gQ from fun e => HX.out.qs.ne_blk PC.out (by decide) _ rfl e.symm)
  obtain ⟨i0, hi0, hz00, hz01, hz02⟩ := info_parts info_u64
  go_enter Tryz.func51, Tryz.ntmps51
  go_upto_region 0 with fail
  have bx := (Below.refl w.heap.size w).drew
  replace HX := hid (HX.out.step bx); replace PC := hid (PC.out.step bx); replace HB := hid (below_then HB.out bx)
  clear bx
  have hszd := hid (show w.drew.heap.size = w.heap.size from rfl)
  refine wp_region_noPanic ?_
  refine wp_region_held_drew (S := (fun W' : World => W'.cell? ⟨gc, 7, none⟩ = some (.slice (some ⟨gQ, 0, none⟩) nq kq) ∧ W'.cell? ⟨gc, 8, none⟩ = some (.int .i64 cp) ∧ W'.cell? ⟨gQ, cp * 2, none⟩ = some (.slice xA xn xc) ∧ W'.cell? ⟨gQ, cp * 2 + 1, none⟩ = some (.int .u64 xo))) (by kernel_rfl) ⟨PC.out.cells11.2.2.2.2.2.2.2.1, PC.out.cells11.2.2.2.2.2.2.2.2.1, (HX.out.q0 rfl HK.out HXX.out), (HX.out.q1 rfl HK.out HXX.out)⟩ (fun hS => ?_)
  generalize w.drew = Wd at *
  refine tk 0 hS ?_
  refine tk 1 hS ?_
  refine tk 2 hS ?_
  refine tk 3 hS ?_
  refine tk 4 hS ?_
  refine tk 5 hS ?_
  refine tk 6 hS ?_
  refine tk 7 hS ?_
  refine tk 8 hS ?_
  refine tk 9 hS ?_
  refine tk 10 hS ?_
  refine rdy [11, 16] (csy (fun K hK => ?_) (csy (fun K hK => ?_) AllReadyH.nil))
  ·skip
   go_simp
   refine ((show Calls Tryz.prog 88 #[qv xA xn xc xo] _ (TkPost _ (o', l', v, 0)) from HT.out ▸ qtake_any xA xn xc xo xl _ (HX.out.qsm HM.out) (by have := HQE.out.2.2.1; dsimp only at this; omega) HQE.out.2.2.2.1.1)).mono ?_
   rintro e w11 ⟨A11, n11, c11, rfl, hqo, hb, hnc⟩
   have hsz0 := hid (show Wd.heap.size ≤ w11.heap.size from hb.size)
   replace HX := hid (HX.out.step hb); replace PC := hid (PC.out.step hb); replace HB := hid (below_then HB.out hb)
   clear hb
   have QT := hid hqo; have HNC := hid hnc; have HLO := hid (show w.heap.size ≤ Wd.heap.size by have := hszd.out; omega)
   clear hqo hnc
   have HQN := hid (show QeO w11 l (CS gc (some ⟨gQ, 0, none⟩) R) ⟨l', o', A11, n11, c11⟩ from QeO.fresh QT.out (by have := HX.out.lg; have := hlw.out; have := HLO.out; omega) HNC.out (by have h7 := QT.out.sm.len; have := HLN.out; dsimp only at h7 ⊢; omega) HON.out (by have := hlw.out; have := HLO.out; omega) (fun b hb => by cases hb; have := hgQ.out; have := HLO.out; dsimp only; omega) (fun b hb => by have := HRL.out b hb; have := HLO.out; omega))
   clear QT HNC
   go_wp2_with fail
   clear hS
   refine ky hK ⟨PC.out.cells11.2.2.2.2.2.2.2.1, PC.out.cells11.2.2.2.2.2.2.2.2.1, (HX.out.q0 rfl HK.out HXX.out), (HX.out.q1 rfl HK.out HXX.out)⟩ fun hS => ?_
   clear hK K
   refine tk 12 hS ?_
   refine tk 13 hS ?_
   refine tk 14 hS ?_
   refine tk 15 hS ?_
   refine rdy [16] (csy (fun K hK => ?_) AllReadyH.nil)
   go_simp
   refine named_alloc ?_
   intro Wa16 hbk hb hsz
   have hsz1 := hid hsz
   obtain ⟨gz, hgz⟩ : ∃ z, z = w11.heap.size := ⟨_, rfl⟩
   have HGZ := hid (show gz < Wa16.heap.size by omega)
   have HGW := hid (show w.heap.size ≤ gz by have := hszd.out; have := hsz0.out; have := hsz1.out; omega)
   rw [← hgz] at hbk ⊢
   have NE := hid (show 0 < n11 → ∀ b, A11 = some b → b.block ≠ gz from fun hn b hb2 e => by obtain ⟨b', off, e1, _, h4, _⟩ := HQN.out.1.sm.row hn; rw [hb2] at e1; cases e1; dsimp only at e; omega)
   clear hgz
   replace HX := hid (HX.out.step hb); replace PC := hid (PC.out.step hb); replace HQN := hid (HQN.out.step hb); replace HB := hid (below_then HB.out hb)
   have PZ := hid hbk
   clear hb hbk hsz
   clear hS
   refine ky hK ⟨PC.out.cells11.2.2.2.2.2.2.2.1, PC.out.cells11.2.2.2.2.2.2.2.2.1, (HX.out.q0 rfl HK.out HXX.out), (HX.out.q1 rfl HK.out HXX.out)⟩ fun hS => ?_
   clear hK K
   refine rdy [17] (csy (fun K hK => ?_) AllReadyH.nil)
   obtain ⟨y00, y01, yf0⟩ := PZ.out.cells2
   go_simp
   clear y00 y01 yf0
   refine named_store2 PZ.out ?_
   intro Ws17 hbk hgr hsz
   have hsz2 := hid hsz
   clear hsz
   have HB0 := hid (HB.out.grown hgr HB.out.size (fun r e => by cases e; exact HGW.out))
   replace HX := hid (HX.out.turn PZ.out (by decide) (by decide) (by decide) (fun b hb => by have := HLT.out.1 b hb; have := HGW.out; omega) (fun y hy hn b hb => by have := HLT.out.2 y hy hn b hb; have := HGW.out; omega) hgr)
   replace PC := hid (PC.out.grown hgr (by have := hlw.out; have := HGW.out; simp; omega))
   replace HQN := hid (show QeO Ws17 l (CS gc (some ⟨gQ, 0, none⟩) R) _ from ⟨HQN.out.1.keptP (GrownP.ofGrown (p := fun i => i = gz) hgr rfl) (fun hn b hb e => NE.out hn b hb e), HQN.out.2⟩)
   replace HB := HB0
   clear HB0 NE
   replace PZ := hid hbk
   clear hbk hgr
   clear hS
   refine ky hK ⟨PC.out.cells11.2.2.2.2.2.2.2.1, PC.out.cells11.2.2.2.2.2.2.2.2.1, (HX.out.q0 rfl HK.out HXX.out), (HX.out.q1 rfl HK.out HXX.out)⟩ fun hS => ?_
   clear hK K
   refine tk 18 hS ?_
   refine tk 19 hS ?_
   refine wpAnyH_done (by kernel_rfl) ?_ _
   refine NoPanic.normal ?_
   clear hS
   obtain ⟨y00, y01, yf0⟩ := PZ.out.cells2
   go_wp2_with fail
   clear y00 y01 yf0
   refine (rneed_yes 0 _).mono ?_
   rintro e v1 ⟨rfl, rfl⟩
   go_upto_region 2 with fail
   have HG := hid (GrownP.ofBelow (p := CS gc (some ⟨gQ, 0, none⟩) R) HB.out)
   clear HB hszd hsz0 hsz1
   have bx := (Below.refl v1.heap.size v1).drew
   replace HX := hid (HX.out.step bx); replace PC := hid (PC.out.step bx); replace PZ := hid (PZ.out.step bx); replace HQN := hid (HQN.out.step bx); replace HG := hid (HG.out.step bx)
   clear bx
   have hszd := hid (show v1.drew.heap.size = v1.heap.size from rfl)
   refine wp_region_noPanic ?_
   refine wp_region_held_tail 20 (fun W' : World => W'.cell? ⟨gc, 7, none⟩ = some (.slice (some ⟨gQ, 0, none⟩) nq kq) ∧ W'.cell? ⟨gc, 8, none⟩ = some (.int .i64 cp) ∧ W'.cell? ⟨gc, 10, none⟩ = some (.slice R nr kr) ∧ W'.cell? ⟨gz, 0, none⟩ = some (.slice A11 n11 c11) ∧ W'.cell? ⟨gz, 1, none⟩ = some (.int .u64 o')) #[false, false, false, false, false, false, false, false, false, false, false, false, false, false, false, false, false, false, false, false, false, false, false] (by kernel_rfl) ⟨PC.out.cells11.2.2.2.2.2.2.2.1, PC.out.cells11.2.2.2.2.2.2.2.2.1, PC.out.cells11.2.2.2.2.2.2.2.2.2.2.1, PZ.out.cells2.1, PZ.out.cells2.2.1⟩ (by kernel_rfl) (by kernel_rfl) (fun hS => ?_)
   generalize v1.drew = Wd at *
   refine tkT 0 hS ?_
   refine tkT 1 hS ?_
   refine tkT 2 hS ?_
   refine tkT 3 hS ?_
   refine tkT 4 hS ?_
   refine tkT 5 hS ?_
   refine tkT 6 hS ?_
   refine tkT 7 hS ?_
   refine tkT 8 hS ?_
   refine tkT 9 hS ?_
   refine tkT 10 hS ?_
   refine tkT 11 hS ?_
   refine tkT 12 hS ?_
   refine tkT 13 hS ?_
   refine tkT 14 hS ?_
   refine tkT 15 hS ?_
   refine rdyT [16] (csyT (fun K hK => ?_) AllReadyT.nil)
   go_simp
   refine named_alloc ?_
   intro Wa16 hbk hb hsz
   have hsz0 := hid hsz
   obtain ⟨gv, hgv⟩ : ∃ z, z = Wd.heap.size := ⟨_, rfl⟩
   rw [← hgv] at hbk ⊢
   clear hgv
   replace HX := hid (HX.out.step hb); replace PC := hid (PC.out.step hb); replace PZ := hid (PZ.out.step hb); replace HQN := hid (HQN.out.step hb); replace HG := hid (HG.out.step hb)
   have PV := hid hbk
   clear hb hbk hsz
   clear hS
   refine kyT hK ⟨PC.out.cells11.2.2.2.2.2.2.2.1, PC.out.cells11.2.2.2.2.2.2.2.2.1, PC.out.cells11.2.2.2.2.2.2.2.2.2.2.1, PZ.out.cells2.1, PZ.out.cells2.2.1⟩ fun hS => ?_
   clear hK K
   refine rdyT [17] (csyT (fun K hK => ?_) AllReadyT.nil)
   refine step_app u64v 0 _ rfl _ _ 40 rfl l 35 i0 _ 8 Tryz.underlying40 hi0 hz00 hz01 hz02 rfl R nr kr ran rfl HX.out.rn 0 _ (some ⟨gv, 0, none⟩) 1 1 [v] rfl ((PV.out.ow (enc := u64v) (xs := [v]) (lo := 0) rfl rfl (Nat.zero_le _) (by simp [maxLen])).sl (d := 0)) (fun _ => rfl) (by have := HNR.out; simp only [maxLen]; omega) (by have := HNR.out; omega) (by have := HX.out.lg; have := PC.out.lt; omega) ?_
   intro A17 c17 Wc17 hown hgr hat
   replace HQN := hid (HQN.out.app HX.out.rn hgr hat)
   replace PC := hid (PC.out.keptO HX.out.rn (by decide) hgr)
   replace PZ := hid (PZ.out.keptO HX.out.rn (by decide) hgr)
   replace HG := hid (HG.out.thenG hgr (fun r e => by obtain ⟨b, hb, hbb⟩ := own_addr e; exact .inr (.inr (.inr ⟨b, hb, hbb.symm⟩))))
   replace HX := hid (HX.out.app hown hgr hat)
   clear hown hgr hat PV
   clear hS
   refine kyT hK ⟨PC.out.cells11.2.2.2.2.2.2.2.1, PC.out.cells11.2.2.2.2.2.2.2.2.1, PC.out.cells11.2.2.2.2.2.2.2.2.2.2.1, PZ.out.cells2.1, PZ.out.cells2.2.1⟩ fun hS => ?_
   clear hK K
   refine tkT 18 hS ?_
   refine rdyT [19] (csyT (fun K hK => ?_) AllReadyT.nil)
   obtain ⟨g2, hg2, q0, q1, qf, _⟩ := HX.out.q_at HK.out
   cases hg2
   go_simp
   clear q0 q1 qf
   have hgr := grown_set (grown_set (World.grownBy.refl Wc17 (some gQ)) (cp * 2) (.slice A11 n11 c11)) (cp * 2 + 1) (.int .u64 o')
   replace HX := hid (show CX ((Wc17.setCell ⟨gQ, cp * 2, none⟩ (.slice A11 n11 c11)).setCell ⟨gQ, cp * 2 + 1, none⟩ (.int .u64 o')) _ _ _ _ _ _ _ _ _ _ from HX.out.put rfl HK.out ⟨l', o', A11, n11, c11⟩ HQN.out)
   replace PC := hid (PC.out.grown hgr (by have := hcq.out; simpa using this))
   replace PZ := hid (PZ.out.grown hgr (by have := hgQ.out; have := HGW.out; simp; omega))
   replace HG := hid (HG.out.thenG hgr (fun r e => by cases e; exact .inr (.inr (.inl ⟨_, rfl, rfl⟩))))
   clear hgr HQN
   generalize (Wc17.setCell ⟨gQ, cp * 2, none⟩ (.slice A11 n11 c11)).setCell ⟨gQ, cp * 2 + 1, none⟩ (.int .u64 o') = Wc19 at *
   clear hS
   refine kyT hK ⟨PC.out.cells11.2.2.2.2.2.2.2.1, PC.out.cells11.2.2.2.2.2.2.2.2.1, PC.out.cells11.2.2.2.2.2.2.2.2.2.2.1, PZ.out.cells2.1, PZ.out.cells2.2.1⟩ fun hS => ?_
   clear hK K
   refine wpAnyT_done (by kernel_rfl) ?_
   simp only [List.drop_succ_cons, List.drop_zero]
   clear hS
   obtain ⟨y0, y1, y2, y3, y4, y5, y6, y7, y8, y9, y10, yf⟩ := PC.out.cells11
   go_wp2_with fail
   refine NoPanic.normal ?_
   clear y0 y1 y2 y3 y4 y5 y6 y7 y8 y9 y10 yf
   (try go_end0)
   have hgr := grown_set (World.grownBy.refl Wc19 (some gc)) 10 (.slice A17 (nr + 1) c17)
   refine ⟨rfl, ⟨A17, c17, A11, n11, c11, (HX.out.boxed PC.out hgr).ca (PC.out.setCell 10 _)⟩, HG.out.thenG hgr (fun r e => by cases e; exact .inr (.inl rfl))⟩
  ·skip
   go_simp
   refine named_alloc ?_
   intro Wa16 hbk hb hsz
   have hsz0 := hid hsz
   obtain ⟨gz, hgz⟩ : ∃ z, z = Wd.heap.size := ⟨_, rfl⟩
   have HGZ := hid (show gz < Wa16.heap.size by omega)
   have HGW := hid (show w.heap.size ≤ gz by have := hszd.out; have := hsz0.out; omega)
   rw [← hgz] at hbk ⊢
   clear hgz
   replace HX := hid (HX.out.step hb); replace PC := hid (PC.out.step hb); replace HB := hid (below_then HB.out hb)
   have PZ := hid hbk
   clear hb hbk hsz
   clear hS
   refine ky hK ⟨PC.out.cells11.2.2.2.2.2.2.2.1, PC.out.cells11.2.2.2.2.2.2.2.2.1, (HX.out.q0 rfl HK.out HXX.out), (HX.out.q1 rfl HK.out HXX.out)⟩ fun hS => ?_
   clear hK K
   refine rdy [11] (csy (fun K hK => ?_) AllReadyH.nil)
   go_simp
   refine ((show Calls Tryz.prog 88 #[qv xA xn xc xo] _ (TkPost _ (o', l', v, 0)) from HT.out ▸ qtake_any xA xn xc xo xl _ (HX.out.qsm HM.out) (by have := HQE.out.2.2.1; dsimp only at this; omega) HQE.out.2.2.2.1.1)).mono ?_
   rintro e w11 ⟨A11, n11, c11, rfl, hqo, hb, hnc⟩
   have hsz1 := hid (show Wa16.heap.size ≤ w11.heap.size from hb.size)
   replace HX := hid (HX.out.step hb); replace PC := hid (PC.out.step hb); replace PZ := hid (PZ.out.step hb); replace HB := hid (below_then HB.out hb)
   clear hb
   have QT := hid hqo; have HNC := hid hnc; have HLO := hid (show w.heap.size ≤ Wa16.heap.size by have := hszd.out; have := hsz0.out; omega)
   clear hqo hnc
   have NE := hid (show 0 < n11 → ∀ b, A11 = some b → b.block ≠ gz from fun hn b hb2 e => by obtain ⟨b', off, e1, h4, _, _⟩ := QT.out.sm.row hn; rw [hb2] at e1; cases e1; have := HGZ.out; dsimp only at e; omega)
   have HQN := hid (show QeO w11 l (CS gc (some ⟨gQ, 0, none⟩) R) ⟨l', o', A11, n11, c11⟩ from QeO.fresh QT.out (by have := HX.out.lg; have := hlw.out; have := HLO.out; omega) HNC.out (by have h7 := QT.out.sm.len; have := HLN.out; dsimp only at h7 ⊢; omega) HON.out (by have := hlw.out; have := HLO.out; omega) (fun b hb => by cases hb; have := hgQ.out; have := HLO.out; dsimp only; omega) (fun b hb => by have := HRL.out b hb; have := HLO.out; omega))
   clear QT HNC
   go_wp2_with fail
   clear hS
   refine ky hK ⟨PC.out.cells11.2.2.2.2.2.2.2.1, PC.out.cells11.2.2.2.2.2.2.2.2.1, (HX.out.q0 rfl HK.out HXX.out), (HX.out.q1 rfl HK.out HXX.out)⟩ fun hS => ?_
   clear hK K
   refine tk 12 hS ?_
   refine tk 13 hS ?_
   refine tk 14 hS ?_
   refine tk 15 hS ?_
   refine rdy [17] (csy (fun K hK => ?_) AllReadyH.nil)
   obtain ⟨y00, y01, yf0⟩ := PZ.out.cells2
   go_simp
   clear y00 y01 yf0
   refine named_store2 PZ.out ?_
   intro Ws17 hbk hgr hsz
   have hsz2 := hid hsz
   clear hsz
   have HB0 := hid (HB.out.grown hgr HB.out.size (fun r e => by cases e; exact HGW.out))
   replace HX := hid (HX.out.turn PZ.out (by decide) (by decide) (by decide) (fun b hb => by have := HLT.out.1 b hb; have := HGW.out; omega) (fun y hy hn b hb => by have := HLT.out.2 y hy hn b hb; have := HGW.out; omega) hgr)
   replace PC := hid (PC.out.grown hgr (by have := hlw.out; have := HGW.out; simp; omega))
   replace HQN := hid (show QeO Ws17 l (CS gc (some ⟨gQ, 0, none⟩) R) _ from ⟨HQN.out.1.keptP (GrownP.ofGrown (p := fun i => i = gz) hgr rfl) (fun hn b hb e => NE.out hn b hb e), HQN.out.2⟩)
   replace HB := HB0
   clear HB0 NE
   replace PZ := hid hbk
   clear hbk hgr
   clear hS
   refine ky hK ⟨PC.out.cells11.2.2.2.2.2.2.2.1, PC.out.cells11.2.2.2.2.2.2.2.2.1, (HX.out.q0 rfl HK.out HXX.out), (HX.out.q1 rfl HK.out HXX.out)⟩ fun hS => ?_
   clear hK K
   refine tk 18 hS ?_
   refine tk 19 hS ?_
   refine wpAnyH_done (by kernel_rfl) ?_ _
   refine NoPanic.normal ?_
   clear hS
   obtain ⟨y00, y01, yf0⟩ := PZ.out.cells2
   go_wp2_with fail
   clear y00 y01 yf0
   refine (rneed_yes 0 _).mono ?_
   rintro e v1 ⟨rfl, rfl⟩
   go_upto_region 2 with fail
   have HG := hid (GrownP.ofBelow (p := CS gc (some ⟨gQ, 0, none⟩) R) HB.out)
   clear HB hszd hsz0 hsz1
   have bx := (Below.refl v1.heap.size v1).drew
   replace HX := hid (HX.out.step bx); replace PC := hid (PC.out.step bx); replace PZ := hid (PZ.out.step bx); replace HQN := hid (HQN.out.step bx); replace HG := hid (HG.out.step bx)
   clear bx
   have hszd := hid (show v1.drew.heap.size = v1.heap.size from rfl)
   refine wp_region_noPanic ?_
   refine wp_region_held_tail 20 (fun W' : World => W'.cell? ⟨gc, 7, none⟩ = some (.slice (some ⟨gQ, 0, none⟩) nq kq) ∧ W'.cell? ⟨gc, 8, none⟩ = some (.int .i64 cp) ∧ W'.cell? ⟨gc, 10, none⟩ = some (.slice R nr kr) ∧ W'.cell? ⟨gz, 0, none⟩ = some (.slice A11 n11 c11) ∧ W'.cell? ⟨gz, 1, none⟩ = some (.int .u64 o')) #[false, false, false, false, false, false, false, false, false, false, false, false, false, false, false, false, false, false, false, false, false, false, false] (by kernel_rfl) ⟨PC.out.cells11.2.2.2.2.2.2.2.1, PC.out.cells11.2.2.2.2.2.2.2.2.1, PC.out.cells11.2.2.2.2.2.2.2.2.2.2.1, PZ.out.cells2.1, PZ.out.cells2.2.1⟩ (by kernel_rfl) (by kernel_rfl) (fun hS => ?_)
   generalize v1.drew = Wd at *
   refine tkT 0 hS ?_
   refine tkT 1 hS ?_
   refine tkT 2 hS ?_
   refine tkT 3 hS ?_
   refine tkT 4 hS ?_
   refine tkT 5 hS ?_
   refine tkT 6 hS ?_
   refine tkT 7 hS ?_
   refine tkT 8 hS ?_
   refine tkT 9 hS ?_
   refine tkT 10 hS ?_
   refine tkT 11 hS ?_
   refine tkT 12 hS ?_
   refine tkT 13 hS ?_
   refine tkT 14 hS ?_
   refine tkT 15 hS ?_
   refine rdyT [16] (csyT (fun K hK => ?_) AllReadyT.nil)
   go_simp
   refine named_alloc ?_
   intro Wa16 hbk hb hsz
   have hsz0 := hid hsz
   obtain ⟨gv, hgv⟩ : ∃ z, z = Wd.heap.size := ⟨_, rfl⟩
   rw [← hgv] at hbk ⊢
   clear hgv
   replace HX := hid (HX.out.step hb); replace PC := hid (PC.out.step hb); replace PZ := hid (PZ.out.step hb); replace HQN := hid (HQN.out.step hb); replace HG := hid (HG.out.step hb)
   have PV := hid hbk
   clear hb hbk hsz
   clear hS
   refine kyT hK ⟨PC.out.cells11.2.2.2.2.2.2.2.1, PC.out.cells11.2.2.2.2.2.2.2.2.1, PC.out.cells11.2.2.2.2.2.2.2.2.2.2.1, PZ.out.cells2.1, PZ.out.cells2.2.1⟩ fun hS => ?_
   clear hK K
   refine rdyT [17] (csyT (fun K hK => ?_) AllReadyT.nil)
   refine step_app u64v 0 _ rfl _ _ 40 rfl l 35 i0 _ 8 Tryz.underlying40 hi0 hz00 hz01 hz02 rfl R nr kr ran rfl HX.out.rn 0 _ (some ⟨gv, 0, none⟩) 1 1 [v] rfl ((PV.out.ow (enc := u64v) (xs := [v]) (lo := 0) rfl rfl (Nat.zero_le _) (by simp [maxLen])).sl (d := 0)) (fun _ => rfl) (by have := HNR.out; simp only [maxLen]; omega) (by have := HNR.out; omega) (by have := HX.out.lg; have := PC.out.lt; omega) ?_
   intro A17 c17 Wc17 hown hgr hat
   replace HQN := hid (HQN.out.app HX.out.rn hgr hat)
   replace PC := hid (PC.out.keptO HX.out.rn (by decide) hgr)
   replace PZ := hid (PZ.out.keptO HX.out.rn (by decide) hgr)
   replace HG := hid (HG.out.thenG hgr (fun r e => by obtain ⟨b, hb, hbb⟩ := own_addr e; exact .inr (.inr (.inr ⟨b, hb, hbb.symm⟩))))
   replace HX := hid (HX.out.app hown hgr hat)
   clear hown hgr hat PV
   clear hS
   refine kyT hK ⟨PC.out.cells11.2.2.2.2.2.2.2.1, PC.out.cells11.2.2.2.2.2.2.2.2.1, PC.out.cells11.2.2.2.2.2.2.2.2.2.2.1, PZ.out.cells2.1, PZ.out.cells2.2.1⟩ fun hS => ?_
   clear hK K
   refine tkT 18 hS ?_
   refine rdyT [19] (csyT (fun K hK => ?_) AllReadyT.nil)
   obtain ⟨g2, hg2, q0, q1, qf, _⟩ := HX.out.q_at HK.out
   cases hg2
   go_simp
   clear q0 q1 qf
   have hgr := grown_set (grown_set (World.grownBy.refl Wc17 (some gQ)) (cp * 2) (.slice A11 n11 c11)) (cp * 2 + 1) (.int .u64 o')
   replace HX := hid (show CX ((Wc17.setCell ⟨gQ, cp * 2, none⟩ (.slice A11 n11 c11)).setCell ⟨gQ, cp * 2 + 1, none⟩ (.int .u64 o')) _ _ _ _ _ _ _ _ _ _ from HX.out.put rfl HK.out ⟨l', o', A11, n11, c11⟩ HQN.out)
   replace PC := hid (PC.out.grown hgr (by have := hcq.out; simpa using this))
   replace PZ := hid (PZ.out.grown hgr (by have := hgQ.out; have := HGW.out; simp; omega))
   replace HG := hid (HG.out.thenG hgr (fun r e => by cases e; exact .inr (.inr (.inl ⟨_, rfl, rfl⟩))))
   clear hgr HQN
   generalize (Wc17.setCell ⟨gQ, cp * 2, none⟩ (.slice A11 n11 c11)).setCell ⟨gQ, cp * 2 + 1, none⟩ (.int .u64 o') = Wc19 at *
   clear hS
   refine kyT hK ⟨PC.out.cells11.2.2.2.2.2.2.2.1, PC.out.cells11.2.2.2.2.2.2.2.2.1, PC.out.cells11.2.2.2.2.2.2.2.2.2.2.1, PZ.out.cells2.1, PZ.out.cells2.2.1⟩ fun hS => ?_
   clear hK K
   refine wpAnyT_done (by kernel_rfl) ?_
   simp only [List.drop_succ_cons, List.drop_zero]
   clear hS
   obtain ⟨y0, y1, y2, y3, y4, y5, y6, y7, y8, y9, y10, yf⟩ := PC.out.cells11
   go_wp2_with fail
   refine NoPanic.normal ?_
   clear y0 y1 y2 y3 y4 y5 y6 y7 y8 y9 y10 yf
   (try go_end0)
   have hgr := grown_set (World.grownBy.refl Wc19 (some gc)) 10 (.slice A17 (nr + 1) c17)
   refine ⟨rfl, ⟨A17, c17, A11, n11, c11, (HX.out.boxed PC.out hgr).ca (PC.out.setCell 10 _)⟩, HG.out.thenG hgr (fun r e => by cases e; exact .inr (.inl rfl))⟩
set_option maxRecDepth 100000 in
set_option maxHeartbeats 8000000 in
theorem rrun_no (l gc : Nat) (s : St) (g : Gr) (es : List Qe) (cp : Nat) (what : Int) (ran : List Int) (a : Ra) (R : Option Addr) (nr kr : Nat) (w : World) (h : CA w l gc s g es cp what ran a R nr kr) (hk : cp < a.nq) (hnq : a.nq ≤ 1000) (x : Qe) (hx : es[cp]?.getD zQe = x) (cd : Int) (ht : takeF x.o x.l = (0, [], 0, cd)) (hcd : cd ≠ 0) :
    Calls Tryz.prog 51 #[ptr gc] w fun x' w' => x' = leaves cd ∧ Below w.heap.size w w' := by
  have HLN := hid (show ([] : List Cb).length ≤ 1000 by simp); have HON := hid (show (0 : Int) ≤ 0 ∧ (0 : Int) ≤ 18446744073709551615 by omega)
  have HCD := hid hcd
  clear hcd
  obtain ⟨A, n, k, B, m, d, D, kd, Q, nq, kq⟩ := a
  obtain ⟨now, ns, os⟩ := s
  have hk : cp < nq := hk
  have hnq : nq ≤ 1000 := hnq
  have HB := hid (Below.refl w.heap.size w); have HX := hid h.cx; have PC := hid h.box
  obtain ⟨gQ, hQ, _, _, _, hmem⟩ := h.q_at hk
  have hQ : Q = some ⟨gQ, 0, none⟩ := hQ
  rw [hx] at hmem
  have HM := hid hmem; have HXX := hid hx; have HK := hid hk; have HLT := hid h.cx.lts; have HT := hid ht; have HQE := hid (h.qe x hmem); have hlw := hid (show gc < w.heap.size from h.box.lt)
  have HRL := hid (show ∀ b, R = some b → b.block < w.heap.size from fun b hb => by obtain ⟨_, cs, q⟩ := h.rn.blk b hb; exact q.lt)
  have hki : (cp : Int) < (nq : Int) := by omega
  clear h hk hx hmem ht
  subst hQ
  obtain ⟨xl, xo, xA, xn, xc⟩ := x
  dsimp only at HT HQE HM HXX
  have hgQ := hid (show gQ < w.heap.size from HLT.out.1 _ rfl)
  have hcq := hid (show gc ≠ gQ from fun e => HX.out.qs.ne_blk PC.out (by decide) _ rfl e.symm)
  go_enter Tryz.func51, Tryz.ntmps51
  go_upto_region 0 with fail
  have bx := (Below.refl w.heap.size w).drew
  replace HX := hid (HX.out.step bx); replace PC := hid (PC.out.step bx); replace HB := hid (below_then HB.out bx)
  clear bx
  have hszd := hid (show w.drew.heap.size = w.heap.size from rfl)
  refine wp_region_noPanic ?_
  refine wp_region_held_drew (S := (fun W' : World => W'.cell? ⟨gc, 7, none⟩ = some (.slice (some ⟨gQ, 0, none⟩) nq kq) ∧ W'.cell? ⟨gc, 8, none⟩ = some (.int .i64 cp) ∧ W'.cell? ⟨gQ, cp * 2, none⟩ = some (.slice xA xn xc) ∧ W'.cell? ⟨gQ, cp * 2 + 1, none⟩ = some (.int .u64 xo))) (by kernel_rfl) ⟨PC.out.cells11.2.2.2.2.2.2.2.1, PC.out.cells11.2.2.2.2.2.2.2.2.1, (HX.out.q0 rfl HK.out HXX.out), (HX.out.q1 rfl HK.out HXX.out)⟩ (fun hS => ?_)
  generalize w.drew = Wd at *
  refine tk 0 hS ?_
  refine tk 1 hS ?_
  refine tk 2 hS ?_
  refine tk 3 hS ?_
  refine tk 4 hS ?_
  refine tk 5 hS ?_
  refine tk 6 hS ?_
  refine tk 7 hS ?_
  refine tk 8 hS ?_
  refine tk 9 hS ?_
  refine tk 10 hS ?_
  refine rdy [11, 16] (csy (fun K hK => ?_) (csy (fun K hK => ?_) AllReadyH.nil))
  ·skip
   go_simp
   refine ((show Calls Tryz.prog 88 #[qv xA xn xc xo] _ (TkPost _ (0, [], 0, cd)) from HT.out ▸ qtake_any xA xn xc xo xl _ (HX.out.qsm HM.out) (by have := HQE.out.2.2.1; dsimp only at this; omega) HQE.out.2.2.2.1.1)).mono ?_
   rintro e w11 ⟨A11, n11, c11, rfl, hqo, hb, hnc⟩
   have hsz0 := hid (show Wd.heap.size ≤ w11.heap.size from hb.size)
   replace HX := hid (HX.out.step hb); replace PC := hid (PC.out.step hb); replace HB := hid (below_then HB.out hb)
   clear hb
   have QT := hid hqo; have HNC := hid hnc; have HLO := hid (show w.heap.size ≤ Wd.heap.size by have := hszd.out; omega)
   clear hqo hnc
   have HQN := hid (show QeO w11 l (CS gc (some ⟨gQ, 0, none⟩) R) ⟨[], 0, A11, n11, c11⟩ from QeO.fresh QT.out (by have := HX.out.lg; have := hlw.out; have := HLO.out; omega) HNC.out (by have h7 := QT.out.sm.len; have := HLN.out; dsimp only at h7 ⊢; omega) HON.out (by have := hlw.out; have := HLO.out; omega) (fun b hb => by cases hb; have := hgQ.out; have := HLO.out; dsimp only; omega) (fun b hb => by have := HRL.out b hb; have := HLO.out; omega))
   clear QT HNC
   go_wp2_with fail
   clear hS
   refine ky hK ⟨PC.out.cells11.2.2.2.2.2.2.2.1, PC.out.cells11.2.2.2.2.2.2.2.2.1, (HX.out.q0 rfl HK.out HXX.out), (HX.out.q1 rfl HK.out HXX.out)⟩ fun hS => ?_
   clear hK K
   refine tk 12 hS ?_
   refine tk 13 hS ?_
   refine tk 14 hS ?_
   refine tk 15 hS ?_
   refine rdy [16] (csy (fun K hK => ?_) AllReadyH.nil)
   go_simp
   refine named_alloc ?_
   intro Wa16 hbk hb hsz
   have hsz1 := hid hsz
   obtain ⟨gz, hgz⟩ : ∃ z, z = w11.heap.size := ⟨_, rfl⟩
   have HGZ := hid (show gz < Wa16.heap.size by omega)
   have HGW := hid (show w.heap.size ≤ gz by have := hszd.out; have := hsz0.out; have := hsz1.out; omega)
   rw [← hgz] at hbk ⊢
   have NE := hid (show 0 < n11 → ∀ b, A11 = some b → b.block ≠ gz from fun hn b hb2 e => by obtain ⟨b', off, e1, _, h4, _⟩ := HQN.out.1.sm.row hn; rw [hb2] at e1; cases e1; dsimp only at e; omega)
   clear hgz
   replace HX := hid (HX.out.step hb); replace PC := hid (PC.out.step hb); replace HQN := hid (HQN.out.step hb); replace HB := hid (below_then HB.out hb)
   have PZ := hid hbk
   clear hb hbk hsz
   clear hS
   refine ky hK ⟨PC.out.cells11.2.2.2.2.2.2.2.1, PC.out.cells11.2.2.2.2.2.2.2.2.1, (HX.out.q0 rfl HK.out HXX.out), (HX.out.q1 rfl HK.out HXX.out)⟩ fun hS => ?_
   clear hK K
   refine rdy [17] (csy (fun K hK => ?_) AllReadyH.nil)
   obtain ⟨y00, y01, yf0⟩ := PZ.out.cells2
   go_simp
   clear y00 y01 yf0
   refine named_store2 PZ.out ?_
   intro Ws17 hbk hgr hsz
   have hsz2 := hid hsz
   clear hsz
   have HB0 := hid (HB.out.grown hgr HB.out.size (fun r e => by cases e; exact HGW.out))
   replace HX := hid (HX.out.turn PZ.out (by decide) (by decide) (by decide) (fun b hb => by have := HLT.out.1 b hb; have := HGW.out; omega) (fun y hy hn b hb => by have := HLT.out.2 y hy hn b hb; have := HGW.out; omega) hgr)
   replace PC := hid (PC.out.grown hgr (by have := hlw.out; have := HGW.out; simp; omega))
   replace HQN := hid (show QeO Ws17 l (CS gc (some ⟨gQ, 0, none⟩) R) _ from ⟨HQN.out.1.keptP (GrownP.ofGrown (p := fun i => i = gz) hgr rfl) (fun hn b hb e => NE.out hn b hb e), HQN.out.2⟩)
   replace HB := HB0
   clear HB0 NE
   replace PZ := hid hbk
   clear hbk hgr
   clear hS
   refine ky hK ⟨PC.out.cells11.2.2.2.2.2.2.2.1, PC.out.cells11.2.2.2.2.2.2.2.2.1, (HX.out.q0 rfl HK.out HXX.out), (HX.out.q1 rfl HK.out HXX.out)⟩ fun hS => ?_
   clear hK K
   refine tk 18 hS ?_
   refine tk 19 hS ?_
   refine wpAnyH_done (by kernel_rfl) ?_ _
   refine NoPanic.normal ?_
   clear hS
   obtain ⟨y00, y01, yf0⟩ := PZ.out.cells2
   have d1 : (cd == 0) = false := by have := HCD.out; simpa using this
   go_wp2_with fail
   clear y00 y01 yf0
   refine (rneed_no cd _).mono ?_
   rintro e v1 ⟨rfl, rfl⟩
   unfold leaves
   go_wp2_with fail
   exact ⟨rfl, rfl, HB.out⟩
  ·skip
   go_simp
   refine named_alloc ?_
   intro Wa16 hbk hb hsz
   have hsz0 := hid hsz
   obtain ⟨gz, hgz⟩ : ∃ z, z = Wd.heap.size := ⟨_, rfl⟩
   have HGZ := hid (show gz < Wa16.heap.size by omega)
   have HGW := hid (show w.heap.size ≤ gz by have := hszd.out; have := hsz0.out; omega)
   rw [← hgz] at hbk ⊢
   clear hgz
   replace HX := hid (HX.out.step hb); replace PC := hid (PC.out.step hb); replace HB := hid (below_then HB.out hb)
   have PZ := hid hbk
   clear hb hbk hsz
   clear hS
   refine ky hK ⟨PC.out.cells11.2.2.2.2.2.2.2.1, PC.out.cells11.2.2.2.2.2.2.2.2.1, (HX.out.q0 rfl HK.out HXX.out), (HX.out.q1 rfl HK.out HXX.out)⟩ fun hS => ?_
   clear hK K
   refine rdy [11] (csy (fun K hK => ?_) AllReadyH.nil)
   go_simp
   refine ((show Calls Tryz.prog 88 #[qv xA xn xc xo] _ (TkPost _ (0, [], 0, cd)) from HT.out ▸ qtake_any xA xn xc xo xl _ (HX.out.qsm HM.out) (by have := HQE.out.2.2.1; dsimp only at this; omega) HQE.out.2.2.2.1.1)).mono ?_
   rintro e w11 ⟨A11, n11, c11, rfl, hqo, hb, hnc⟩
   have hsz1 := hid (show Wa16.heap.size ≤ w11.heap.size from hb.size)
   replace HX := hid (HX.out.step hb); replace PC := hid (PC.out.step hb); replace PZ := hid (PZ.out.step hb); replace HB := hid (below_then HB.out hb)
   clear hb
   have QT := hid hqo; have HNC := hid hnc; have HLO := hid (show w.heap.size ≤ Wa16.heap.size by have := hszd.out; have := hsz0.out; omega)
   clear hqo hnc
   have NE := hid (show 0 < n11 → ∀ b, A11 = some b → b.block ≠ gz from fun hn b hb2 e => by obtain ⟨b', off, e1, h4, _, _⟩ := QT.out.sm.row hn; rw [hb2] at e1; cases e1; have := HGZ.out; dsimp only at e; omega)
   have HQN := hid (show QeO w11 l (CS gc (some ⟨gQ, 0, none⟩) R) ⟨[], 0, A11, n11, c11⟩ from QeO.fresh QT.out (by have := HX.out.lg; have := hlw.out; have := HLO.out; omega) HNC.out (by have h7 := QT.out.sm.len; have := HLN.out; dsimp only at h7 ⊢; omega) HON.out (by have := hlw.out; have := HLO.out; omega) (fun b hb => by cases hb; have := hgQ.out; have := HLO.out; dsimp only; omega) (fun b hb => by have := HRL.out b hb; have := HLO.out; omega))
   clear QT HNC
   go_wp2_with fail
   clear hS
   refine ky hK ⟨PC.out.cells11.2.2.2.2.2.2.2.1, PC.out.cells11.2.2.2.2.2.2.2.2.1, (HX.out.q0 rfl HK.out HXX.out), (HX.out.q1 rfl HK.out HXX.out)⟩ fun hS => ?_
   clear hK K
   refine tk 12 hS ?_
   refine tk 13 hS ?_
   refine tk 14 hS ?_
   refine tk 15 hS ?_
   refine rdy [17] (csy (fun K hK => ?_) AllReadyH.nil)
   obtain ⟨y00, y01, yf0⟩ := PZ.out.cells2
   go_simp
   clear y00 y01 yf0
   refine named_store2 PZ.out ?_
   intro Ws17 hbk hgr hsz
   have hsz2 := hid hsz
   clear hsz
   have HB0 := hid (HB.out.grown hgr HB.out.size (fun r e => by cases e; exact HGW.out))
   replace HX := hid (HX.out.turn PZ.out (by decide) (by decide) (by decide) (fun b hb => by have := HLT.out.1 b hb; have := HGW.out; omega) (fun y hy hn b hb => by have := HLT.out.2 y hy hn b hb; have := HGW.out; omega) hgr)
   replace PC := hid (PC.out.grown hgr (by have := hlw.out; have := HGW.out; simp; omega))
   replace HQN := hid (show QeO Ws17 l (CS gc (some ⟨gQ, 0, none⟩) R) _ from ⟨HQN.out.1.keptP (GrownP.ofGrown (p := fun i => i = gz) hgr rfl) (fun hn b hb e => NE.out hn b hb e), HQN.out.2⟩)
   replace HB := HB0
   clear HB0 NE
   replace PZ := hid hbk
   clear hbk hgr
   clear hS
   refine ky hK ⟨PC.out.cells11.2.2.2.2.2.2.2.1, PC.out.cells11.2.2.2.2.2.2.2.2.1, (HX.out.q0 rfl HK.out HXX.out), (HX.out.q1 rfl HK.out HXX.out)⟩ fun hS => ?_
   clear hK K
   refine tk 18 hS ?_
   refine tk 19 hS ?_
   refine wpAnyH_done (by kernel_rfl) ?_ _
   refine NoPanic.normal ?_
   clear hS
   obtain ⟨y00, y01, yf0⟩ := PZ.out.cells2
   have d1 : (cd == 0) = false := by have := HCD.out; simpa using this
   go_wp2_with fail
   clear y00 y01 yf0
   refine (rneed_no cd _).mono ?_
   rintro e v1 ⟨rfl, rfl⟩
   unfold leaves
   go_wp2_with fail
   exact ⟨rfl, rfl, HB.out⟩
end Go.Proofs.YtfipdoofgbjbjaaGreat

/- package rcu: call. No condition but sizes. -/
namespace Go.Proofs.YtfipdoofgbjbjaaGreat
open Go.RowKit
attribute [local go_sem] Oper.semAt_some
theorem CX.regd {w : World} {l gc : Nat} {s : St} {g g' : Gr} {es : List Qe} {ran : List Int} {a : Ra} {R : Option Addr} {nr kr : Nat} (h : CX w l gc s g es ran a R nr kr) {D : Option Addr} {kd : Nat} (hd : Ow blv w l 4 D g'.nd.length kd g'.nd) : CX w l gc s g' es ran ⟨a.A, a.n, a.k, a.B, a.m, a.d, D, kd, a.Q, a.nq, a.kq⟩ R nr kr :=
  ⟨h.ro, hd, h.qs, h.rn, h.qe, h.lg⟩
set_option maxRecDepth 100000 in
set_option maxHeartbeats 2000000 in
theorem rcall_full (l gc : Nat) (s : St) (g : Gr) (es : List Qe) (cp : Nat) (what : Int) (ran : List Int) (a : Ra) (R : Option Addr) (nr kr : Nat) (w : World) (h : CA w l gc s g es cp what ran a R nr kr) (hk : cp < a.nq) (hnq : a.nq ≤ 1000) (x : Qe) (hx : es[cp]?.getD zQe = x) (hg : GrOk g) (hn : ¬ gNext g ≤ 2147483645) :
    Calls Tryz.prog 74 #[ptr gc] w fun x' w' => x' = leaves 6 ∧ Below w.heap.size w w' := by
  have HN := hid hn
  clear hn
  obtain ⟨A, n, k, B, m, d, D, kd, Q, nq, kq⟩ := a
  obtain ⟨now, ns, os⟩ := s
  have hk : cp < nq := hk
  have hnq : nq ≤ 1000 := hnq
  have HB := hid (Below.refl w.heap.size w); have HX := hid h.cx; have PC := hid h.box; have HGK := hid hg
  obtain ⟨gQ, hQ, _, _, _, hmem⟩ := h.q_at hk
  have hQ : Q = some ⟨gQ, 0, none⟩ := hQ
  rw [hx] at hmem
  have HM := hid hmem; have HXX := hid hx; have HK := hid hk; have HLT := hid h.cx.lts; have HQE := hid (h.qe x hmem); have hlw := hid (show gc < w.heap.size from h.box.lt)
  have HRL := hid (show ∀ b, R = some b → b.block < w.heap.size from fun b hb => by obtain ⟨_, cs, q⟩ := h.rn.blk b hb; exact q.lt)
  have hki : (cp : Int) < (nq : Int) := by omega
  clear h hk hx hmem hg
  subst hQ
  obtain ⟨xl, xo, xA, xn, xc⟩ := x
  dsimp only at HQE HM HXX
  have hgQ := hid (show gQ < w.heap.size from HLT.out.1 _ rfl)
  have hcq := hid (show gc ≠ gQ from fun e => HX.out.qs.ne_blk PC.out (by decide) _ rfl e.symm)
  go_enter Tryz.func74, Tryz.ntmps74
  obtain ⟨y0, y1, y2, y3, y4, y5, y6, y7, y8, y9, y10, yf⟩ := PC.out.cells11
  go_wp2_with fail
  clear y0 y1 y2 y3 y4 y5 y6 y7 y8 y9 y10 yf
  have hga := gask_any g D kd w ((HX.out.gd.sl (d := false)).mono (Nat.zero_le _) (Nat.le_refl _)) HGK.out
  rw [show gaskF g = (6, 0, zGr) from if_neg (by have := HN.out; omega)] at hga
  refine hga.mono ?_
  rintro e w1 ⟨D1, kd1, rfl, hd1, hb⟩
  clear hga hd1
  replace HX := hid (HX.out.step hb); replace PC := hid (PC.out.step hb); replace HB := hid (below_then HB.out hb)
  clear hb
  dsimp only
  go_wp2_with fail
  refine (rneed_no 6 _).mono ?_
  rintro e v1 ⟨rfl, rfl⟩
  unfold leaves
  go_wp2_with fail
  exact ⟨rfl, rfl, below_then HB.out (below_box _ _)⟩
set_option maxRecDepth 100000 in
set_option maxHeartbeats 8000000 in
theorem rcall_yes (l gc : Nat) (s : St) (g : Gr) (es : List Qe) (cp : Nat) (what : Int) (ran : List Int) (a : Ra) (R : Option Addr) (nr kr : Nat) (w : World) (h : CA w l gc s g es cp what ran a R nr kr) (hk : cp < a.nq) (hnq : a.nq ≤ 1000) (x : Qe) (hx : es[cp]?.getD zQe = x) (hg : GrOk g) (hn : gNext g ≤ 2147483645) (o' : Int) (l' : List Cb) (ht : putF x.o x.l what (gNext g - g.dn) = (o', l', 0)) (hon : 0 ≤ o' ∧ o' ≤ 18446744073709551615) (hln : l'.length ≤ 1000) :
    Calls Tryz.prog 74 #[ptr gc] w fun x' w' => x' = .returned (.tuple #[]) ∧ (∃ a', a'.Q = a.Q ∧ a'.nq = a.nq ∧ a'.kq = a.kq ∧ ∃ A n c, CA w' l gc s (gAsk g) (es.set cp ⟨l', o', A, n, c⟩) cp what ran a' R nr kr) ∧ GrownP (CS gc a.Q R) w w' := by
  have HN := hid hn; have HT := hid ht; have HLN := hid hln; have HON := hid hon
  clear hn ht hln hon
  obtain ⟨A, n, k, B, m, d, D, kd, Q, nq, kq⟩ := a
  obtain ⟨now, ns, os⟩ := s
  have hk : cp < nq := hk
  have hnq : nq ≤ 1000 := hnq
  have HB := hid (Below.refl w.heap.size w); have HX := hid h.cx; have PC := hid h.box; have HGK := hid hg
  obtain ⟨gQ, hQ, _, _, _, hmem⟩ := h.q_at hk
  have hQ : Q = some ⟨gQ, 0, none⟩ := hQ
  rw [hx] at hmem
  have HM := hid hmem; have HXX := hid hx; have HK := hid hk; have HLT := hid h.cx.lts; have HQE := hid (h.qe x hmem); have hlw := hid (show gc < w.heap.size from h.box.lt)
  have HRL := hid (show ∀ b, R = some b → b.block < w.heap.size from fun b hb => by obtain ⟨_, cs, q⟩ := h.rn.blk b hb; exact q.lt)
  have hki : (cp : Int) < (nq : Int) := by omega
  clear h hk hx hmem hg
  subst hQ
  obtain ⟨xl, xo, xA, xn, xc⟩ := x
  dsimp only at HQE HM HXX
  have hgQ := hid (show gQ < w.heap.size from HLT.out.1 _ rfl)
  have hcq := hid (show gc ≠ gQ from fun e => HX.out.qs.ne_blk PC.out (by decide) _ rfl e.symm)
  dsimp only at HT
  go_enter Tryz.func74, Tryz.ntmps74
  obtain ⟨y0, y1, y2, y3, y4, y5, y6, y7, y8, y9, y10, yf⟩ := PC.out.cells11
  go_wp2_with fail
  clear y0 y1 y2 y3 y4 y5 y6 y7 y8 y9 y10 yf
  have hga := gask_any g D kd w ((HX.out.gd.sl (d := false)).mono (Nat.zero_le _) (Nat.le_refl _)) HGK.out
  rw [show gaskF g = (0, gNext g, gAsk g) from if_pos HN.out] at hga
  obtain ⟨N, hNN⟩ : ∃ N, N = gNext g := ⟨_, rfl⟩
  obtain ⟨g1, hg1⟩ : ∃ g1, g1 = gAsk g := ⟨_, rfl⟩
  have HDN := hid (show g1.dn = g.dn by rw [hg1]; rfl)
  have HG1 := hid hg1; have HNN := hid hNN
  rw [← hNN, ← hg1] at hga
  clear hNN hg1
  refine hga.mono ?_
  rintro e w1 ⟨D1, kd1, rfl, hd1, hb⟩
  have DO := hid (hd1.mono (show l ≤ w.heap.size by have := HX.out.lg; have := hlw.out; omega))
  clear hga hd1
  replace HX := hid (HX.out.step hb); replace PC := hid (PC.out.step hb); replace HB := hid (below_then HB.out hb)
  clear hb
  dsimp only
  have HZ1 := hid HB.out.size
  have bx := below_box w1 (.cells #[.int .i64 g1.dn, .int .i64 g1.ak, .bool g1.on, .slice D1 g1.nd.length kd1] 27)
  replace HX := hid (HX.out.step bx); replace PC := hid (PC.out.step bx); replace DO := hid (DO.out.step bx); replace HB := hid (below_then HB.out bx)
  clear bx
  have PG := hid (Blk.new w1 27 #[.int .i64 g1.dn, .int .i64 g1.ak, .bool g1.on, .slice D1 g1.nd.length kd1])
  go_wp2_with fail
  generalize w1.alloc (.cells #[.int .i64 g1.dn, .int .i64 g1.ak, .bool g1.on, .slice D1 g1.nd.length kd1] 27) = W1 at *
  refine (rneed_yes 0 _).mono ?_
  rintro e v1 ⟨rfl, rfl⟩
  have HZV := hid (show w1.heap.size ≤ v1.heap.size from Nat.le_of_lt PG.out.lt)
  go_upto_region 2 with fail
  skip
  rw [← HNN.out, ← HDN.out] at HT
  obtain ⟨ah, hah⟩ : ∃ x, x = N - g1.dn := ⟨_, rfl⟩
  rw [← hah] at HT
  have hN2 : N ≤ 2147483645 ∧ 0 ≤ g1.dn ∧ g1.dn ≤ 2147483645 ∧ 0 ≤ N := by
    have h1 := HN.out; have h2 := HNN.out; have h3 := HGK.out.small; have h4 := HDN.out
    have h5 : g.dn ≤ gNext g := by unfold gNext; split <;> omega
    omega
  have hw1 : IntKind.i64.wrap (N - g1.dn) = ah := by rw [IntKind.wrap_i64]; omega
  have hw2 : wrap64 (N - g1.dn) = ah := by unfold wrap64; omega
  have HAH := hid hah
  clear hah hN2
  have bx := (Below.refl v1.heap.size v1).drew
  replace HX := hid (HX.out.step bx); replace PC := hid (PC.out.step bx); replace DO := hid (DO.out.step bx); replace PG := hid (PG.out.step bx); replace HB := hid (below_then HB.out bx)
  clear bx
  have hszd := hid (show v1.drew.heap.size = v1.heap.size from rfl)
  refine wp_region_noPanic ?_
  refine wp_region_held_tail 32 (fun W' : World => W'.cell? ⟨gc, 7, none⟩ = some (.slice (some ⟨gQ, 0, none⟩) nq kq) ∧ W'.cell? ⟨gc, 8, none⟩ = some (.int .i64 cp) ∧ W'.cell? ⟨gc, 9, none⟩ = some (.int .u64 what) ∧ W'.cell? ⟨w1.heap.size, 0, none⟩ = some (.int .i64 g1.dn) ∧ W'.cell? ⟨gQ, cp * 2, none⟩ = some (.slice xA xn xc) ∧ W'.cell? ⟨gQ, cp * 2 + 1, none⟩ = some (.int .u64 xo)) #[false, false, false, false, false, false, false, false, false, false, false, false, false, false, false, false, false, false, false, false, false, false, false, false, false, false, false, false, false, false, false, false, false, false] (by kernel_rfl) ⟨PC.out.cells11.2.2.2.2.2.2.2.1, PC.out.cells11.2.2.2.2.2.2.2.2.1, PC.out.cells11.2.2.2.2.2.2.2.2.2.1, PG.out.cells4.1, (HX.out.q0 rfl HK.out HXX.out), (HX.out.q1 rfl HK.out HXX.out)⟩ (by kernel_rfl) (by kernel_rfl) (fun hS => ?_)
  generalize v1.drew = Wd at *
  refine tkT 0 hS ?_
  refine tkT 1 hS ?_
  refine tkT 2 hS ?_
  refine tkT 3 hS ?_
  refine tkT 4 hS ?_
  refine tkT 5 hS ?_
  refine tkT 6 hS ?_
  refine tkT 7 hS ?_
  refine tkT 8 hS ?_
  refine tkT 9 hS ?_
  refine tkT 10 hS ?_
  refine tkT 11 hS ?_
  refine tkT 12 hS ?_
  refine tkT 13 hS ?_
  refine tkT 14 hS ?_
  refine tkT 15 hS ?_
  refine tkT 16 hS ?_
  refine tkT 17 hS ?_
  refine tkT 18 hS ?_
  refine tkT 19 hS ?_
  refine tkT 20 hS ?_
  refine tkT 21 hS ?_
  refine tkT 22 hS ?_
  refine tkT 23 hS ?_
  refine tkT 24 hS ?_
  refine tkT 25 hS ?_
  refine tkT 26 hS ?_
  refine tkT 27 hS ?_
  refine rdyT [28] (csyT (fun K hK => ?_) AllReadyT.nil)
  go_simp
  refine ((show Calls Tryz.prog 118 #[qv xA xn xc xo, .int .u64 what, .int .i64 ah] _ (QPost _ (o', l', 0)) from HT.out ▸ qput_any xA xn xc xo xl what ah _ (HX.out.qsm HM.out) (by have := HQE.out.2.2.1; dsimp only at this; omega) HQE.out.2.2.2.1.1 HQE.out.2.1)).mono ?_
  rintro e w28 ⟨A11, n11, c11, rfl, hqo, hb, hnc⟩
  have hsz0 := hid (show Wd.heap.size ≤ w28.heap.size from hb.size)
  replace HX := hid (HX.out.step hb); replace PC := hid (PC.out.step hb); replace DO := hid (DO.out.step hb); replace PG := hid (PG.out.step hb); replace HB := hid (below_then HB.out hb)
  clear hb
  have HQN := hid (show QeO w28 l (CS gc (some ⟨gQ, 0, none⟩) R) ⟨l', o', A11, n11, c11⟩ from QeO.fresh hqo (by have := HX.out.lg; have := hlw.out; have := HZ1.out; have := HZV.out; have := hszd.out; omega) hnc (by have h7 := hqo.sm.len; have := HLN.out; dsimp only at h7 ⊢; omega) HON.out (by have := hlw.out; have := HZ1.out; have := HZV.out; have := hszd.out; omega) (fun b hb => by cases hb; have := hgQ.out; have := HZ1.out; have := HZV.out; have := hszd.out; dsimp only; omega) (fun b hb => by have := HRL.out b hb; have := HZ1.out; have := HZV.out; have := hszd.out; omega))
  clear hqo hnc
  go_wp2_with fail
  clear hS
  refine kyT hK ⟨PC.out.cells11.2.2.2.2.2.2.2.1, PC.out.cells11.2.2.2.2.2.2.2.2.1, PC.out.cells11.2.2.2.2.2.2.2.2.2.1, PG.out.cells4.1, (HX.out.q0 rfl HK.out HXX.out), (HX.out.q1 rfl HK.out HXX.out)⟩ fun hS => ?_
  clear hK K
  refine tkT 29 hS ?_
  refine tkT 30 hS ?_
  refine rdyT [31] (csyT (fun K hK => ?_) AllReadyT.nil)
  go_simp
  refine (sureQ_yes A11 n11 c11 o' _).mono ?_
  rintro e w31 ⟨rfl, hb⟩
  have hsz1 := hid (show w28.heap.size ≤ w31.heap.size from hb.size)
  replace HX := hid (HX.out.step hb); replace PC := hid (PC.out.step hb); replace DO := hid (DO.out.step hb); replace PG := hid (PG.out.step hb); replace HQN := hid (HQN.out.step hb); replace HB := hid (below_then HB.out hb)
  clear hb
  go_wp2_with fail
  clear hS
  refine kyT hK ⟨PC.out.cells11.2.2.2.2.2.2.2.1, PC.out.cells11.2.2.2.2.2.2.2.2.1, PC.out.cells11.2.2.2.2.2.2.2.2.2.1, PG.out.cells4.1, (HX.out.q0 rfl HK.out HXX.out), (HX.out.q1 rfl HK.out HXX.out)⟩ fun hS => ?_
  clear hK K
  refine wpAnyT_done (by kernel_rfl) ?_
  simp only [List.drop_succ_cons, List.drop_zero]
  clear hS
  have HG := hid (GrownP.ofBelow (p := CS gc (some ⟨gQ, 0, none⟩) R) HB.out)
  have HGZ := hid (show w.heap.size ≤ w1.heap.size from HZ1.out)
  clear HB
  obtain ⟨g2, hg2, q0, q1, qf, _⟩ := HX.out.q_at HK.out
  cases hg2
  go_wp2_with fail
  refine NoPanic.normal ?_
  clear q0 q1 qf
  have hgr := grown_set (grown_set (World.grownBy.refl w31 (some gQ)) (cp * 2) (.slice A11 n11 c11)) (cp * 2 + 1) (.int .u64 o')
  replace DO := hid (DO.out.keptG hgr (fun b hb e => by obtain ⟨_, cs, hbb⟩ := HX.out.qs.blk _ rfl; exact DO.out.ne_blk hbb (by decide) b hb (Option.some.inj e)))
  replace HX := hid (show CX ((w31.setCell ⟨gQ, cp * 2, none⟩ (.slice A11 n11 c11)).setCell ⟨gQ, cp * 2 + 1, none⟩ (.int .u64 o')) _ _ _ _ _ _ _ _ _ _ from HX.out.put rfl HK.out ⟨l', o', A11, n11, c11⟩ HQN.out)
  replace PC := hid (PC.out.grown hgr (by have := hcq.out; simpa using this))
  replace PG := hid (PG.out.grown hgr (by have := hgQ.out; have := HGZ.out; simp; omega))
  replace HG := hid (HG.out.thenG hgr (fun r e => by cases e; exact .inr (.inr (.inl ⟨_, rfl, rfl⟩))))
  clear hgr HQN
  generalize (w31.setCell ⟨gQ, cp * 2, none⟩ (.slice A11 n11 c11)).setCell ⟨gQ, cp * 2 + 1, none⟩ (.int .u64 o') = W2 at *
  obtain ⟨y0, y1, y2, y3, y4, y5, y6, y7, y8, y9, y10, yf⟩ := PC.out.cells11
  obtain ⟨y00, y01, y02, y03, yf0⟩ := PG.out.cells4
  go_wp2_with fail
  clear y00 y01 y02 y03 yf0 y0 y1 y2 y3 y4 y5 y6 y7 y8 y9 y10 yf
  (try go_end0)
  have hgr := (grown_set (grown_set (grown_set (grown_set (World.grownBy.refl W2 (some gc)) 3 (.int .i64 g1.dn)) 4 (.int .i64 g1.ak)) 5 (.bool g1.on)) 6 (.slice D1 g1.nd.length kd1))
  refine ⟨rfl, ⟨⟨A, n, k, B, m, d, D1, kd1, some ⟨gQ, 0, none⟩, nq, kq⟩, rfl, rfl, rfl, A11, n11, c11, ?_⟩, HG.out.thenG hgr (fun r e => by cases e; exact .inr (.inl rfl))⟩
  rw [← HG1.out]
  exact ((HX.out.regd DO.out).boxed PC.out hgr).ca ((((PC.out.setCell 3 (.int .i64 g1.dn)).setCell 4 (.int .i64 g1.ak)).setCell 5 (.bool g1.on)).setCell 6 (.slice D1 g1.nd.length kd1))
set_option maxRecDepth 100000 in
set_option maxHeartbeats 8000000 in
theorem rcall_err (l gc : Nat) (s : St) (g : Gr) (es : List Qe) (cp : Nat) (what : Int) (ran : List Int) (a : Ra) (R : Option Addr) (nr kr : Nat) (w : World) (h : CA w l gc s g es cp what ran a R nr kr) (hk : cp < a.nq) (hnq : a.nq ≤ 1000) (x : Qe) (hx : es[cp]?.getD zQe = x) (hg : GrOk g) (hn : gNext g ≤ 2147483645) (cd : Int) (ht : putF x.o x.l what (gNext g - g.dn) = (0, [], cd)) (hcd : cd ≠ 0) :
    Calls Tryz.prog 74 #[ptr gc] w fun x' w' => x' = leaves cd ∧ Below w.heap.size w w' := by
  have HN := hid hn; have HT := hid ht; have HCD := hid hcd
  clear hn ht hcd
  obtain ⟨A, n, k, B, m, d, D, kd, Q, nq, kq⟩ := a
  obtain ⟨now, ns, os⟩ := s
  have hk : cp < nq := hk
  have hnq : nq ≤ 1000 := hnq
  have HB := hid (Below.refl w.heap.size w); have HX := hid h.cx; have PC := hid h.box; have HGK := hid hg
  obtain ⟨gQ, hQ, _, _, _, hmem⟩ := h.q_at hk
  have hQ : Q = some ⟨gQ, 0, none⟩ := hQ
  rw [hx] at hmem
  have HM := hid hmem; have HXX := hid hx; have HK := hid hk; have HLT := hid h.cx.lts; have HQE := hid (h.qe x hmem); have hlw := hid (show gc < w.heap.size from h.box.lt)
  have HRL := hid (show ∀ b, R = some b → b.block < w.heap.size from fun b hb => by obtain ⟨_, cs, q⟩ := h.rn.blk b hb; exact q.lt)
  have hki : (cp : Int) < (nq : Int) := by omega
  clear h hk hx hmem hg
  subst hQ
  obtain ⟨xl, xo, xA, xn, xc⟩ := x
  dsimp only at HQE HM HXX
  have hgQ := hid (show gQ < w.heap.size from HLT.out.1 _ rfl)
  have hcq := hid (show gc ≠ gQ from fun e => HX.out.qs.ne_blk PC.out (by decide) _ rfl e.symm)
  dsimp only at HT
  go_enter Tryz.func74, Tryz.ntmps74
  obtain ⟨y0, y1, y2, y3, y4, y5, y6, y7, y8, y9, y10, yf⟩ := PC.out.cells11
  go_wp2_with fail
  clear y0 y1 y2 y3 y4 y5 y6 y7 y8 y9 y10 yf
  have hga := gask_any g D kd w ((HX.out.gd.sl (d := false)).mono (Nat.zero_le _) (Nat.le_refl _)) HGK.out
  rw [show gaskF g = (0, gNext g, gAsk g) from if_pos HN.out] at hga
  obtain ⟨N, hNN⟩ : ∃ N, N = gNext g := ⟨_, rfl⟩
  obtain ⟨g1, hg1⟩ : ∃ g1, g1 = gAsk g := ⟨_, rfl⟩
  have HDN := hid (show g1.dn = g.dn by rw [hg1]; rfl)
  have HG1 := hid hg1; have HNN := hid hNN
  rw [← hNN, ← hg1] at hga
  clear hNN hg1
  refine hga.mono ?_
  rintro e w1 ⟨D1, kd1, rfl, hd1, hb⟩
  have DO := hid (hd1.mono (show l ≤ w.heap.size by have := HX.out.lg; have := hlw.out; omega))
  clear hga hd1
  replace HX := hid (HX.out.step hb); replace PC := hid (PC.out.step hb); replace HB := hid (below_then HB.out hb)
  clear hb
  dsimp only
  have HZ1 := hid HB.out.size
  have bx := below_box w1 (.cells #[.int .i64 g1.dn, .int .i64 g1.ak, .bool g1.on, .slice D1 g1.nd.length kd1] 27)
  replace HX := hid (HX.out.step bx); replace PC := hid (PC.out.step bx); replace DO := hid (DO.out.step bx); replace HB := hid (below_then HB.out bx)
  clear bx
  have PG := hid (Blk.new w1 27 #[.int .i64 g1.dn, .int .i64 g1.ak, .bool g1.on, .slice D1 g1.nd.length kd1])
  go_wp2_with fail
  generalize w1.alloc (.cells #[.int .i64 g1.dn, .int .i64 g1.ak, .bool g1.on, .slice D1 g1.nd.length kd1] 27) = W1 at *
  refine (rneed_yes 0 _).mono ?_
  rintro e v1 ⟨rfl, rfl⟩
  have HZV := hid (show w1.heap.size ≤ v1.heap.size from Nat.le_of_lt PG.out.lt)
  go_upto_region 2 with fail
  skip
  rw [← HNN.out, ← HDN.out] at HT
  obtain ⟨ah, hah⟩ : ∃ x, x = N - g1.dn := ⟨_, rfl⟩
  rw [← hah] at HT
  have hN2 : N ≤ 2147483645 ∧ 0 ≤ g1.dn ∧ g1.dn ≤ 2147483645 ∧ 0 ≤ N := by
    have h1 := HN.out; have h2 := HNN.out; have h3 := HGK.out.small; have h4 := HDN.out
    have h5 : g.dn ≤ gNext g := by unfold gNext; split <;> omega
    omega
  have hw1 : IntKind.i64.wrap (N - g1.dn) = ah := by rw [IntKind.wrap_i64]; omega
  have hw2 : wrap64 (N - g1.dn) = ah := by unfold wrap64; omega
  clear hah hN2
  have bx := (Below.refl v1.heap.size v1).drew
  replace HX := hid (HX.out.step bx); replace PC := hid (PC.out.step bx); replace DO := hid (DO.out.step bx); replace PG := hid (PG.out.step bx); replace HB := hid (below_then HB.out bx)
  clear bx
  have hszd := hid (show v1.drew.heap.size = v1.heap.size from rfl)
  refine wp_region_qp ?_
  refine wp_region_held_drew (S := (fun W' : World => W'.cell? ⟨gc, 7, none⟩ = some (.slice (some ⟨gQ, 0, none⟩) nq kq) ∧ W'.cell? ⟨gc, 8, none⟩ = some (.int .i64 cp) ∧ W'.cell? ⟨gc, 9, none⟩ = some (.int .u64 what) ∧ W'.cell? ⟨w1.heap.size, 0, none⟩ = some (.int .i64 g1.dn) ∧ W'.cell? ⟨gQ, cp * 2, none⟩ = some (.slice xA xn xc) ∧ W'.cell? ⟨gQ, cp * 2 + 1, none⟩ = some (.int .u64 xo))) (by kernel_rfl) ⟨PC.out.cells11.2.2.2.2.2.2.2.1, PC.out.cells11.2.2.2.2.2.2.2.2.1, PC.out.cells11.2.2.2.2.2.2.2.2.2.1, PG.out.cells4.1, (HX.out.q0 rfl HK.out HXX.out), (HX.out.q1 rfl HK.out HXX.out)⟩ (fun hS => ?_)
  generalize v1.drew = Wd at *
  refine tk 0 hS ?_ (hQ := fun _ _ _ h => QP.put h)
  refine tk 1 hS ?_ (hQ := fun _ _ _ h => QP.put h)
  refine tk 2 hS ?_ (hQ := fun _ _ _ h => QP.put h)
  refine tk 3 hS ?_ (hQ := fun _ _ _ h => QP.put h)
  refine tk 4 hS ?_ (hQ := fun _ _ _ h => QP.put h)
  refine tk 5 hS ?_ (hQ := fun _ _ _ h => QP.put h)
  refine tk 6 hS ?_ (hQ := fun _ _ _ h => QP.put h)
  refine tk 7 hS ?_ (hQ := fun _ _ _ h => QP.put h)
  refine tk 8 hS ?_ (hQ := fun _ _ _ h => QP.put h)
  refine tk 9 hS ?_ (hQ := fun _ _ _ h => QP.put h)
  refine tk 10 hS ?_ (hQ := fun _ _ _ h => QP.put h)
  refine tk 11 hS ?_ (hQ := fun _ _ _ h => QP.put h)
  refine tk 12 hS ?_ (hQ := fun _ _ _ h => QP.put h)
  refine tk 13 hS ?_ (hQ := fun _ _ _ h => QP.put h)
  refine tk 14 hS ?_ (hQ := fun _ _ _ h => QP.put h)
  refine tk 15 hS ?_ (hQ := fun _ _ _ h => QP.put h)
  refine tk 16 hS ?_ (hQ := fun _ _ _ h => QP.put h)
  refine tk 17 hS ?_ (hQ := fun _ _ _ h => QP.put h)
  refine tk 18 hS ?_ (hQ := fun _ _ _ h => QP.put h)
  refine tk 19 hS ?_ (hQ := fun _ _ _ h => QP.put h)
  refine tk 20 hS ?_ (hQ := fun _ _ _ h => QP.put h)
  refine tk 21 hS ?_ (hQ := fun _ _ _ h => QP.put h)
  refine tk 22 hS ?_ (hQ := fun _ _ _ h => QP.put h)
  refine tk 23 hS ?_ (hQ := fun _ _ _ h => QP.put h)
  refine tk 24 hS ?_ (hQ := fun _ _ _ h => QP.put h)
  refine tk 25 hS ?_ (hQ := fun _ _ _ h => QP.put h)
  refine tk 26 hS ?_ (hQ := fun _ _ _ h => QP.put h)
  refine tk 27 hS ?_ (hQ := fun _ _ _ h => QP.put h)
  refine rdy [28] (csy (fun K hK => ?_) AllReadyH.nil)
  go_simp
  refine ((show Calls Tryz.prog 118 #[qv xA xn xc xo, .int .u64 what, .int .i64 ah] _ (QPost _ (0, [], cd)) from HT.out ▸ qput_any xA xn xc xo xl what ah _ (HX.out.qsm HM.out) (by have := HQE.out.2.2.1; dsimp only at this; omega) HQE.out.2.2.2.1.1 HQE.out.2.1)).mono ?_
  rintro e w28 ⟨A11, n11, c11, rfl, hqo, hb, hnc⟩
  have hsz0 := hid (show Wd.heap.size ≤ w28.heap.size from hb.size)
  replace HX := hid (HX.out.step hb); replace PC := hid (PC.out.step hb); replace DO := hid (DO.out.step hb); replace PG := hid (PG.out.step hb); replace HB := hid (below_then HB.out hb)
  clear hb
  clear hqo hnc
  go_wp2_with fail
  clear hS
  refine ky hK ⟨PC.out.cells11.2.2.2.2.2.2.2.1, PC.out.cells11.2.2.2.2.2.2.2.2.1, PC.out.cells11.2.2.2.2.2.2.2.2.2.1, PG.out.cells4.1, (HX.out.q0 rfl HK.out HXX.out), (HX.out.q1 rfl HK.out HXX.out)⟩ fun hS => ?_
  clear hK K
  refine tk 29 hS ?_ (hQ := fun _ _ _ h => QP.put h)
  refine tk 30 hS ?_ (hQ := fun _ _ _ h => QP.put h)
  refine rdy [31] (csy (fun K hK => ?_) AllReadyH.nil)
  go_simp
  refine (sureQ_no A11 n11 c11 0 cd w28 HCD.out).mono ?_
  rintro e Wp ⟨rfl, hb⟩
  unfold leaves
  intro tm
  have hfin : ({ tmps := tm, defers := [] } : Act).defers = [] ∧ (leaves cd = leaves cd ∧ Below w.heap.size w Wp) := ⟨rfl, rfl, below_then HB.out hb⟩
  exact hfin
end Go.Proofs.YtfipdoofgbjbjaaGreat

/- package rcu: pick. No condition but sizes. -/
namespace Go.Proofs.YtfipdoofgbjbjaaGreat
open Go.RowKit
attribute [local go_sem] Oper.semAt_some
/-- queues behind a pick -/
def overs (d d' : Int) (qs : List (List Cb × Int)) : List (List Cb × Int) := if d < d' then qs.map (fun q => (q.1, d')) else qs
theorem gPick_dn {g : Gr} (h : GrOk g) (k : Nat) (q : Bool) : g.dn ≤ (gPick g k q).dn ∧ (gPick g k q).dn ≤ g.dn + 1 := by
  unfold gPick gReport gBegin
  split
  · split
    · exact ⟨by show g.dn ≤ g.dn + 1; omega, Int.le_refl _⟩
    · exact ⟨Int.le_refl _, by show g.dn ≤ g.dn + 1; omega⟩
  · split
    · exact ⟨Int.le_refl _, by show g.dn ≤ g.dn + 1; omega⟩
    · exact ⟨Int.le_refl _, by omega⟩
set_option maxRecDepth 100000 in
set_option maxHeartbeats 8000000 in
theorem rpick_any (l gc : Nat) (s : St) (g : Gr) (es : List Qe) (cp : Nat) (what : Int) (ran : List Int) (a : Ra) (R : Option Addr) (nr kr : Nat) (w : World) (h : CA w l gc s g es cp what ran a R nr kr) (hk : cp < g.nd.length) (hkq : 1 ≤ a.nq) (hnq : a.nq ≤ 1000) (hg : GrOk g)
    (q : Bool) (hq : decide (QuietP s.1 s.2.1 s.2.2 cp) = q) (hqs : ∀ x ∈ es, QGood x.o x.l ∧ x.o = g.dn) :
    Calls Tryz.prog 49 #[ptr gc] w fun x' w' => x' = .returned (.tuple #[]) ∧ (∃ a', a'.Q = a.Q ∧ a'.nq = a.nq ∧ a'.kq = a.kq ∧ ∃ es', ql es' = overs g.dn (gPick g cp q).dn (ql es) ∧ CA w' l gc s (gPick g cp q) es' cp what ran a' R nr kr) ∧ GrownP (CS gc a.Q R) w w' := by
  obtain ⟨A, n, k, B, m, d, D, kd, Q, nq, kq⟩ := a
  obtain ⟨now, ns, os⟩ := s
  have hkq : 1 ≤ nq := hkq
  have hnq : nq ≤ 1000 := hnq
  have HB := hid (Below.refl w.heap.size w); have HX := hid h.cx; have PC := hid h.box; have HGK := hid hg; have HQS := hid hqs; have HQ := hid hq
  obtain ⟨gQ, hQ, _, _, _, _⟩ := h.q_at (k := 0) (by show 0 < nq; omega)
  have hQ : Q = some ⟨gQ, 0, none⟩ := hQ
  have HLT := hid h.cx.lts; have hlw := hid (show gc < w.heap.size from h.box.lt)
  have HRL := hid (show ∀ b, R = some b → b.block < w.heap.size from fun b hb => by obtain ⟨_, cs, q⟩ := h.rn.blk b hb; exact q.lt)
  have HPF := hid (show gpickF g (cp : Int) q = (0, gPick g cp q) from by unfold gpickF; rw [if_pos ⟨by omega, by omega⟩, Int.toNat_natCast])
  have HDN := hid (gPick_dn hg cp q)
  have hl := hid (show es.length = nq from h.qs.len)
  clear h hg hqs hq
  subst hQ
  have hgQ := hid (show gQ < w.heap.size from HLT.out.1 _ rfl)
  have hcq := hid (show gc ≠ gQ from fun e => HX.out.qs.ne_blk PC.out (by decide) _ rfl e.symm)
  obtain ⟨g2, hg2⟩ : ∃ g2, g2 = gPick g cp q := ⟨_, rfl⟩
  rw [← hg2] at HPF HDN ⊢
  clear hg2
  go_enter Tryz.func49, Tryz.ntmps49
  obtain ⟨y0, y1, y2, y3, y4, y5, y6, y7, y8, y9, y10, yf⟩ := PC.out.cells11
  go_upto_region 1 with fail
  clear y0 y1 y2 y3 y4 y5 y6 y7 y8 y9 y10 yf
  have bx := (Below.refl w.heap.size w).drew
  replace HX := hid (HX.out.step bx); replace PC := hid (PC.out.step bx); replace HB := hid (below_then HB.out bx)
  clear bx
  have hszd := hid (show w.drew.heap.size = w.heap.size from rfl)
  refine wp_region_noPanic ?_
  refine wp_region_held_tail 24 (fun W' : World => W'.cell? ⟨gc, 0, none⟩ = some (.int .i64 now) ∧ W'.cell? ⟨gc, 1, none⟩ = some (.slice A n k) ∧ W'.cell? ⟨gc, 2, none⟩ = some (.slice B m d) ∧ W'.cell? ⟨gc, 3, none⟩ = some (.int .i64 g.dn) ∧ W'.cell? ⟨gc, 4, none⟩ = some (.int .i64 g.ak) ∧ W'.cell? ⟨gc, 5, none⟩ = some (.bool g.on) ∧ W'.cell? ⟨gc, 6, none⟩ = some (.slice D g.nd.length kd) ∧ W'.cell? ⟨gc, 8, none⟩ = some (.int .i64 cp)) #[false, false, false, false, false, false, false, false, false, false, false, false, false, false, false, false, false, false, false, false, false, false, false, false, false, false, false, false] (by kernel_rfl) ⟨PC.out.cells11.1, PC.out.cells11.2.1, PC.out.cells11.2.2.1, PC.out.cells11.2.2.2.1, PC.out.cells11.2.2.2.2.1, PC.out.cells11.2.2.2.2.2.1, PC.out.cells11.2.2.2.2.2.2.1, PC.out.cells11.2.2.2.2.2.2.2.2.1⟩ (by kernel_rfl) (by kernel_rfl) (fun hS => ?_)
  generalize w.drew = Wd at *
  refine tkT 0 hS ?_
  refine tkT 1 hS ?_
  refine tkT 2 hS ?_
  refine tkT 3 hS ?_
  refine tkT 4 hS ?_
  refine tkT 5 hS ?_
  refine tkT 6 hS ?_
  refine tkT 7 hS ?_
  refine tkT 8 hS ?_
  refine tkT 9 hS ?_
  refine tkT 10 hS ?_
  refine tkT 11 hS ?_
  refine tkT 12 hS ?_
  refine tkT 13 hS ?_
  refine tkT 14 hS ?_
  refine tkT 15 hS ?_
  refine tkT 16 hS ?_
  refine tkT 17 hS ?_
  refine tkT 18 hS ?_
  refine rdyT [19] (csyT (fun K hK => ?_) AllReadyT.nil)
  go_simp
  refine ((show Calls Tryz.prog 84 #[rv now A n k B m d, .int .i64 cp] _ (fun e w' => e = .returned (.bool q) ∧ Below _ _ w') from HQ.out ▸ quiet_any now A n k B m d ns os cp _ HX.out.ro.rds)).mono ?_
  rintro e w19 ⟨rfl, hb⟩
  have hsz0 := hid (show Wd.heap.size ≤ w19.heap.size from hb.size)
  replace HX := hid (HX.out.step hb); replace PC := hid (PC.out.step hb); replace HB := hid (below_then HB.out hb)
  clear hb
  go_wp2_with fail
  clear hS
  refine kyT hK ⟨PC.out.cells11.1, PC.out.cells11.2.1, PC.out.cells11.2.2.1, PC.out.cells11.2.2.2.1, PC.out.cells11.2.2.2.2.1, PC.out.cells11.2.2.2.2.2.1, PC.out.cells11.2.2.2.2.2.2.1, PC.out.cells11.2.2.2.2.2.2.2.2.1⟩ fun hS => ?_
  clear hK K
  refine rdyT [20] (csyT (fun K hK => ?_) AllReadyT.nil)
  go_simp
  refine ((show Calls Tryz.prog 83 #[gv g D g.nd.length kd, .int .i64 cp, .bool q] _ (GPickPost _ (0, g2)) from HPF.out ▸ gpick_any g D kd cp q _ ((HX.out.gd.sl (d := false)).mono (Nat.zero_le _) (Nat.le_refl _)) HGK.out)).mono ?_
  rintro e w20 ⟨D2, kd2, rfl, hd, hb⟩
  have hsz1 := hid (show w19.heap.size ≤ w20.heap.size from hb.size)
  replace HX := hid (HX.out.step hb); replace PC := hid (PC.out.step hb); replace HB := hid (below_then HB.out hb)
  clear hb
  have DO := hid (hd.mono (show l ≤ w19.heap.size by have := HX.out.lg; have := hlw.out; have := hszd.out; have := hsz0.out; omega))
  clear hd
  go_wp2_with fail
  clear hS
  refine kyT hK ⟨PC.out.cells11.1, PC.out.cells11.2.1, PC.out.cells11.2.2.1, PC.out.cells11.2.2.2.1, PC.out.cells11.2.2.2.2.1, PC.out.cells11.2.2.2.2.2.1, PC.out.cells11.2.2.2.2.2.2.1, PC.out.cells11.2.2.2.2.2.2.2.2.1⟩ fun hS => ?_
  clear hK K
  refine tkT 21 hS ?_
  refine tkT 22 hS ?_
  refine rdyT [23] (csyT (fun K hK => ?_) AllReadyT.nil)
  go_simp
  refine (sureG_yes g2.dn g2.ak g2.on D2 g2.nd.length kd2 _).mono ?_
  rintro e w23 ⟨rfl, hb⟩
  have hsz2 := hid (show w20.heap.size ≤ w23.heap.size from hb.size)
  replace HX := hid (HX.out.step hb); replace PC := hid (PC.out.step hb); replace DO := hid (DO.out.step hb); replace HB := hid (below_then HB.out hb)
  clear hb
  go_wp2_with fail
  clear hS
  refine kyT hK ⟨PC.out.cells11.1, PC.out.cells11.2.1, PC.out.cells11.2.2.1, PC.out.cells11.2.2.2.1, PC.out.cells11.2.2.2.2.1, PC.out.cells11.2.2.2.2.2.1, PC.out.cells11.2.2.2.2.2.2.1, PC.out.cells11.2.2.2.2.2.2.2.2.1⟩ fun hS => ?_
  clear hK K
  refine wpAnyT_done (by kernel_rfl) ?_
  simp only [List.drop_succ_cons, List.drop_zero]
  clear hS
  obtain ⟨y0, y1, y2, y3, y4, y5, y6, y7, y8, y9, y10, yf⟩ := PC.out.cells11
  go_wp2_with fail
  refine NoPanic.normal ?_
  clear y0 y1 y2 y3 y4 y5 y6 y7 y8 y9 y10 yf
  have hgr := (grown_set (grown_set (grown_set (grown_set (World.grownBy.refl w23 (some gc)) 3 (.int .i64 g2.dn)) 4 (.int .i64 g2.ak)) 5 (.bool g2.on)) 6 (.slice D2 g2.nd.length kd2))
  replace HX := hid (show CX ((((w23.setCell ⟨gc, 3, none⟩ (.int .i64 g2.dn)).setCell ⟨gc, 4, none⟩ (.int .i64 g2.ak)).setCell ⟨gc, 5, none⟩ (.bool g2.on)).setCell ⟨gc, 6, none⟩ (.slice D2 g2.nd.length kd2)) l gc (now, ns, os) g2 es ran ⟨A, n, k, B, m, d, D2, kd2, some ⟨gQ, 0, none⟩, nq, kq⟩ R nr kr from (HX.out.regd DO.out).boxed PC.out hgr)
  have HG := hid ((GrownP.ofBelow (p := CS gc (some ⟨gQ, 0, none⟩) R) HB.out).thenG hgr (fun r e => by cases e; exact .inr (.inl rfl)))
  replace PC := hid (show Blk ((((w23.setCell ⟨gc, 3, none⟩ (.int .i64 g2.dn)).setCell ⟨gc, 4, none⟩ (.int .i64 g2.ak)).setCell ⟨gc, 5, none⟩ (.bool g2.on)).setCell ⟨gc, 6, none⟩ (.slice D2 g2.nd.length kd2)) gc 78 (ccells (now, ns, os) g2 ⟨A, n, k, B, m, d, D2, kd2, some ⟨gQ, 0, none⟩, nq, kq⟩ cp what R nr kr) from ((((PC.out.setCell 3 (.int .i64 g2.dn)).setCell 4 (.int .i64 g2.ak)).setCell 5 (.bool g2.on)).setCell 6 (.slice D2 g2.nd.length kd2)))
  clear hgr DO HB
  generalize (((w23.setCell ⟨gc, 3, none⟩ (.int .i64 g2.dn)).setCell ⟨gc, 4, none⟩ (.int .i64 g2.ak)).setCell ⟨gc, 5, none⟩ (.bool g2.on)).setCell ⟨gc, 6, none⟩ (.slice D2 g2.nd.length kd2) = W2 at *
  obtain ⟨y0, y1, y2, y3, y4, y5, y6, y7, y8, y9, y10, yf⟩ := PC.out.cells11
  by_cases hgt : g.dn < g2.dn
  rotate_left
  ·skip
   have d1 : decide (g.dn < g2.dn) = false := decide_eq_false hgt
   have d1' : decide (g2.dn > g.dn) = false := decide_eq_false hgt
   have HOV := hid (show overs g.dn g2.dn (ql es) = ql es from if_neg hgt)
   clear hgt
   go_wp2
   (try go_end0)
   refine ⟨rfl, ⟨⟨A, n, k, B, m, d, D2, kd2, some ⟨gQ, 0, none⟩, nq, kq⟩, rfl, rfl, rfl, es, by rw [HOV.out], HX.out.ca PC.out⟩, HG.out⟩
  have d1 : decide (g.dn < g2.dn) = true := decide_eq_true hgt
  have d1' : decide (g2.dn > g.dn) = true := decide_eq_true hgt
  have HOV := hid (show overs g.dn g2.dn (ql es) = (ql es).map (fun q => (q.1, g2.dn)) from if_pos hgt)
  have HGT := hid hgt
  clear hgt
  go_wp2_with fail
  clear d1 d1' y0 y1 y2 y3 y4 y5 y6 y7 y8 y9 y10 yf
  have HW2 := hid HG.out.size
  go_loopw [3, 4, 52] (fun _ _ i W => ∃ (j : Nat) (ej : List Qe), j ≤ nq ∧ i = .int .i64 j ∧ CX W l gc (now, ns, os) g2 ej ran ⟨A, n, k, B, m, d, D2, kd2, some ⟨gQ, 0, none⟩, nq, kq⟩ R nr kr ∧ Blk W gc 78 (ccells (now, ns, os) g2 ⟨A, n, k, B, m, d, D2, kd2, some ⟨gQ, 0, none⟩, nq, kq⟩ cp what R nr kr) ∧ GrownP (CS gc (some ⟨gQ, 0, none⟩) R) w W ∧
    ql ej = ((ql es).take j).map (fun q => (q.1, g2.dn)) ++ (ql es).drop j ∧ (∀ i, j ≤ i → ej[i]?.getD zQe = es[i]?.getD zQe)) (fun _ _ i _ => nq - (intOf i).toNat)
  case atStart => exact ⟨0, es, Nat.zero_le _, rfl, HX.out, PC.out, HG.out, by simp, fun _ _ => rfl⟩
  case round =>
    rename World => Wr
    clear HX PC HG
    obtain ⟨j, ej, hj, rfl, h1, h2, h3, h4, h5⟩ := hrel
    have HX := hid h1; have PC := hid h2; have HG := hid h3; have HQL := hid h4; have HSA := hid h5
    clear h1 h2 h3 h4 h5
    by_cases hjn : j < nq
    rotate_left
    ·skip
     obtain rfl : j = nq := by omega
     have hnn : ¬ ((j : Int) < (j : Int)) := by omega
     have HFI := hid (show ql ej = overs g.dn g2.dn (ql es) from by rw [HQL.out, HOV.out, List.take_of_length_le (by unfold ql; rw [List.length_map, hl.out]; exact Nat.le_refl _), List.drop_eq_nil_of_le (by unfold ql; rw [List.length_map, hl.out]; exact Nat.le_refl _), List.append_nil])
     go_wp2
     (try go_end0)
     refine ⟨rfl, ⟨⟨A, n, k, B, m, d, D2, kd2, some ⟨gQ, 0, none⟩, j, kq⟩, rfl, rfl, rfl, ej, by rw [HFI.out], HX.out.ca PC.out⟩, HG.out⟩
    have hji : (j : Int) < (nq : Int) := by omega
    obtain ⟨x, hx⟩ : ∃ x, x = es[j]?.getD zQe := ⟨_, rfl⟩
    have hlt : j < es.length := by rw [hl.out]; exact hjn
    have hxm : x ∈ es := by rw [hx, List.getElem?_eq_getElem hlt]; exact List.getElem_mem _
    have HXX := hid (show ej[j]?.getD zQe = x by rw [HSA.out j (Nat.le_refl _), hx])
    have HXQ := hid (HQS.out x hxm)
    have HKJ := hid hjn
    have hxe : ej[j]?.getD zQe ∈ ej := by obtain ⟨_, _, _, _, _, h⟩ := HX.out.q_at HKJ.out; exact h
    rw [HXX.out] at hxe
    have HXM := hid hxe
    have HQE := hid (HX.out.qe x hxe)
    have HXN := hid (show (ql es).take (j + 1) = (ql es).take j ++ [(x.l, x.o)] ∧ (ql es).drop j = (x.l, x.o) :: (ql es).drop (j + 1) by
      have e1 : (ql es)[j]? = some (x.l, x.o) := by unfold ql; rw [List.getElem?_map, hx, List.getElem?_eq_getElem hlt]; rfl
      obtain ⟨hlt2, e2⟩ := List.getElem?_eq_some_iff.1 e1
      refine ⟨by rw [List.take_succ_eq_append_getElem hlt2, e2], by rw [List.drop_eq_getElem_cons hlt2, e2]⟩)
    clear hx hlt hxm hxe
    obtain ⟨xl, xo, xA, xn, xc⟩ := x
    dsimp only at HXQ HQE HXN
    have f0 := HX.out.q0 rfl HKJ.out HXX.out
    have f1 := HX.out.q1 rfl HKJ.out HXX.out
    have HWR := hid HG.out.size
    have bx := below_box Wr (.cells #[.slice xA xn xc, .int .u64 xo] 58)
    replace HX := hid (HX.out.step bx); replace PC := hid (PC.out.step bx); replace HG := hid (HG.out.step bx)
    clear bx
    have PT := hid (Blk.new Wr 58 #[.slice xA xn xc, .int .u64 xo])
    go_upto_region 6 with fail
    clear f0 f1
    have hz5 := hid (show (Wr.alloc (.cells #[.slice xA xn xc, .int .u64 xo] 58)).heap.size = Wr.heap.size + 1 by simp)
    generalize Wr.alloc (.cells #[.slice xA xn xc, .int .u64 xo] 58) = W5 at *
    have hef := hid (show endF xo xl g2.dn = (g2.dn, xl, 0) from by
      unfold endF
      have h1 := HXQ.out; have h2 := HDN.out; have h3 := HGT.out; have h4 := HGK.out.small
      rw [if_neg (fun h => h h1.1), if_neg (by omega)])
    have hcv : IntKind.u64.wrap g2.dn = g2.dn := by rw [IntKind.wrap_u64]; have h2 := HDN.out; have h4 := HGK.out.small; omega
    have HD2 := hid (show 0 ≤ g2.dn ∧ g2.dn ≤ 18446744073709551615 by have h2 := HDN.out; have h4 := HGK.out.small; omega)
    have bx := (Below.refl W5.heap.size W5).drew
    replace HX := hid (HX.out.step bx); replace PC := hid (PC.out.step bx); replace HG := hid (HG.out.step bx); replace PT := hid (PT.out.step bx)
    clear bx
    have hszd := hid (show W5.drew.heap.size = W5.heap.size from rfl)
    refine wp_region_noPanic ?_
    refine wp_region_held_tail 18 (fun W' : World => W'.cell? ⟨gc, 3, none⟩ = some (.int .i64 g2.dn) ∧ W'.cell? ⟨gc, 7, none⟩ = some (.slice (some ⟨gQ, 0, none⟩) nq kq) ∧ W'.cell? ⟨Wr.heap.size, 0, none⟩ = some (.slice xA xn xc) ∧ W'.cell? ⟨Wr.heap.size, 1, none⟩ = some (.int .u64 xo)) #[false, false, false, false, false, false, false, false, false, false, false, false, false, false, false, false, false, false, false, false] (by kernel_rfl) ⟨PC.out.cells11.2.2.2.1, PC.out.cells11.2.2.2.2.2.2.2.1, PT.out.cells2.1, PT.out.cells2.2.1⟩ (by kernel_rfl) (by kernel_rfl) (fun hS => ?_)
    generalize W5.drew = Wd at *
    refine tkT 0 hS ?_
    refine tkT 1 hS ?_
    refine tkT 2 hS ?_
    refine tkT 3 hS ?_
    refine tkT 4 hS ?_
    refine tkT 5 hS ?_
    refine tkT 6 hS ?_
    refine tkT 7 hS ?_
    refine tkT 8 hS ?_
    refine tkT 9 hS ?_
    refine tkT 10 hS ?_
    refine tkT 11 hS ?_
    refine tkT 12 hS ?_
    refine tkT 13 hS ?_
    refine rdyT [14] (csyT (fun K hK => ?_) AllReadyT.nil)
    go_simp
    refine ((show Calls Tryz.prog 86 #[qv xA xn xc xo, .int .u64 g2.dn] _ (QPost _ (g2.dn, xl, 0)) from hef.out ▸ qend_any xA xn xc xo xl g2.dn _ (HX.out.qsm HXM.out) (by have := HQE.out.2.2.1; dsimp only at this; omega) HQE.out.2.2.2.1.1)).mono ?_
    rintro e w14 ⟨A11, n11, c11, rfl, hqo, hb, hnc⟩
    have hsz0 := hid (show Wd.heap.size ≤ w14.heap.size from hb.size)
    replace HX := hid (HX.out.step hb); replace PC := hid (PC.out.step hb); replace HG := hid (HG.out.step hb); replace PT := hid (PT.out.step hb)
    clear hb
    have HQN := hid (show QeO w14 l (CS gc (some ⟨gQ, 0, none⟩) R) ⟨xl, g2.dn, A11, n11, c11⟩ from QeO.fresh hqo (by have := HX.out.lg; have := hlw.out; have := HWR.out; have := hz5.out; have := hszd.out; omega) hnc (by have h7 := hqo.sm.len; have h8 := HQE.out.1.sm.len; have := HQE.out.2.2.1; dsimp only at h7 h8 this ⊢; omega) HD2.out (by have := hlw.out; have := HWR.out; have := hz5.out; have := hszd.out; omega) (fun b hb => by cases hb; have := hgQ.out; have := HWR.out; have := hz5.out; have := hszd.out; dsimp only; omega) (fun b hb => by have := HRL.out b hb; have := HWR.out; have := hz5.out; have := hszd.out; omega))
    clear hqo hnc
    go_wp2_with fail
    clear hS
    refine kyT hK ⟨PC.out.cells11.2.2.2.1, PC.out.cells11.2.2.2.2.2.2.2.1, PT.out.cells2.1, PT.out.cells2.2.1⟩ fun hS => ?_
    clear hK K
    refine tkT 15 hS ?_
    refine tkT 16 hS ?_
    refine rdyT [17] (csyT (fun K hK => ?_) AllReadyT.nil)
    go_simp
    refine (sureQ_yes A11 n11 c11 g2.dn _).mono ?_
    rintro e w17 ⟨rfl, hb⟩
    have hsz1 := hid (show w14.heap.size ≤ w17.heap.size from hb.size)
    replace HX := hid (HX.out.step hb); replace PC := hid (PC.out.step hb); replace HG := hid (HG.out.step hb); replace PT := hid (PT.out.step hb); replace HQN := hid (HQN.out.step hb)
    clear hb
    go_wp2_with fail
    clear hS
    refine kyT hK ⟨PC.out.cells11.2.2.2.1, PC.out.cells11.2.2.2.2.2.2.2.1, PT.out.cells2.1, PT.out.cells2.2.1⟩ fun hS => ?_
    clear hK K
    refine wpAnyT_done (by kernel_rfl) ?_
    simp only [List.drop_succ_cons, List.drop_zero]
    clear hS
    obtain ⟨g3, hg3, q0, q1, qf, _⟩ := HX.out.q_at HKJ.out
    cases hg3
    go_wp2_with fail
    refine NoPanic.normal ?_
    clear q0 q1 qf
    have hgr := grown_set (grown_set (World.grownBy.refl w17 (some gQ)) (j * 2) (.slice A11 n11 c11)) (j * 2 + 1) (.int .u64 g2.dn)
    have hln := HX.out.qs.len
    replace HX := hid (show CX ((w17.setCell ⟨gQ, j * 2, none⟩ (.slice A11 n11 c11)).setCell ⟨gQ, j * 2 + 1, none⟩ (.int .u64 g2.dn)) _ _ _ _ _ _ _ _ _ _ from HX.out.put rfl HKJ.out ⟨xl, g2.dn, A11, n11, c11⟩ HQN.out)
    replace PC := hid (PC.out.grown hgr (by have := hcq.out; simpa using this))
    replace HG := hid (HG.out.thenG hgr (fun r e => by cases e; exact .inr (.inr (.inl ⟨_, rfl, rfl⟩))))
    clear hgr HQN
    generalize (w17.setCell ⟨gQ, j * 2, none⟩ (.slice A11 n11 c11)).setCell ⟨gQ, j * 2 + 1, none⟩ (.int .u64 g2.dn) = Wn at *
    have HQ2 := hid (show ql (ej.set j ⟨xl, g2.dn, A11, n11, c11⟩) = ((ql es).take (j + 1)).map (fun q => (q.1, g2.dn)) ++ (ql es).drop (j + 1) from by
      have e1 : ql (ej.set j ⟨xl, g2.dn, A11, n11, c11⟩) = (ql ej).set j (xl, g2.dn) := by unfold ql; rw [List.map_set]
      have e2 : (((ql es).take j).map (fun q => (q.1, g2.dn))).length = j := by
        rw [List.length_map, List.length_take]; unfold ql; rw [List.length_map, hl.out]; have := HKJ.out; omega
      rw [e1, HQL.out, HXN.out.2, HXN.out.1, List.set_append_right _ _ (by omega), e2, Nat.sub_self]
      simp)
    have HS2 := hid (show ∀ i, j + 1 ≤ i → (ej.set j ⟨xl, g2.dn, A11, n11, c11⟩)[i]?.getD zQe = es[i]?.getD zQe from fun i hi => by rw [List.getElem?_set_ne (by omega)]; exact HSA.out i (by omega))
    clear hln
    have hw1 : IntKind.i64.wrap ((j : Int) + 1) = (j : Int) + 1 := by rw [IntKind.wrap_i64]; omega
    go_wp2_with fail
    go_roundw
    case rel => exact ⟨j + 1, _, by omega, by go_num, HX.out, PC.out, HG.out, HQ2.out, HS2.out⟩
    case measure => simp [intOf]; omega
end Go.Proofs.YtfipdoofgbjbjaaGreat

/- package rcu: what a cpu does, by its kind, plainly and as it is called. No condition but sizes. -/
namespace Go.Proofs.YtfipdoofgbjbjaaGreat
open Go.RowKit
abbrev Qs := List (List Cb × Int)
/-- an op: the error, the readers, the grace, the queues, what was run -/
def opF (s : St) (g : Gr) (qs : Qs) (o : Int × Int × Int) : Int × St × Gr × Qs × List Int :=
  if o.1 < 1 ∨ 5 < o.1 then (242, s, g, qs, []) else if o.2.1 < 0 ∨ (qs.length : Int) ≤ o.2.1 then (2, s, g, qs, [])
  else if o.1 = 1 ∨ o.1 = 2 then (stC s (o.2.1, decide (o.1 = 1)), stN s (o.2.1, decide (o.1 = 1)), g, qs, [])
  else if o.1 = 3 then (if 2147483645 < gNext g then (6, s, g, qs, []) else
    ((putF (qs[o.2.1.toNat]?.getD ([], 0)).2 (qs[o.2.1.toNat]?.getD ([], 0)).1 o.2.2 (gNext g - g.dn)).2.2, s, gAsk g, qs.set o.2.1.toNat ((putF (qs[o.2.1.toNat]?.getD ([], 0)).2 (qs[o.2.1.toNat]?.getD ([], 0)).1 o.2.2 (gNext g - g.dn)).2.1, (putF (qs[o.2.1.toNat]?.getD ([], 0)).2 (qs[o.2.1.toNat]?.getD ([], 0)).1 o.2.2 (gNext g - g.dn)).1), []))
  else if o.1 = 4 then (0, s, gPick g o.2.1.toNat (decide (s.2.1[o.2.1.toNat]?.getD 0 = 0)), overs g.dn (gPick g o.2.1.toNat (decide (s.2.1[o.2.1.toNat]?.getD 0 = 0))).dn qs, [])
  else ((takeF (qs[o.2.1.toNat]?.getD ([], 0)).2 (qs[o.2.1.toNat]?.getD ([], 0)).1).2.2.2, s, g, qs.set o.2.1.toNat ((takeF (qs[o.2.1.toNat]?.getD ([], 0)).2 (qs[o.2.1.toNat]?.getD ([], 0)).1).2.1, (takeF (qs[o.2.1.toNat]?.getD ([], 0)).2 (qs[o.2.1.toNat]?.getD ([], 0)).1).1), [(takeF (qs[o.2.1.toNat]?.getD ([], 0)).2 (qs[o.2.1.toNat]?.getD ([], 0)).1).2.2.1])
/-- all of it may be -/
def RcGood (s : St) (g : Gr) (qs : Qs) : Prop := Both s g ∧ qs.length = g.nd.length ∧ ∀ q ∈ qs, QGood q.2 q.1 ∧ q.2 = g.dn ∧ ∀ c ∈ q.1, c.1 ≤ g.ak
/-- what a method leaves -/
def MPost (l gc : Nat) (s : St) (g : Gr) (es : List Qe) (ran : List Int) (a : Ra) (nr : Nat) (o : Int × Int × Int) (w : World) (x : Ending) (w' : World) : Prop :=
  GrownP (fun i => l ≤ i) w w' ∧ (((opF s g (ql es) o).1 = 0 ∧ x = .returned (.tuple #[]) ∧ ∃ a' es' is' what' R' nr' kr', a'.Q = a.Q ∧ a'.nq = a.nq ∧ nr' ≤ nr + 1 ∧ ql es' = (opF s g (ql es) o).2.2.2.1 ∧
    CA w' l gc (opF s g (ql es) o).2.1 (opF s g (ql es) o).2.2.1 es' is' what' (ran ++ (opF s g (ql es) o).2.2.2.2) a' R' nr' kr') ∨ ((opF s g (ql es) o).1 ≠ 0 ∧ x = leaves (opF s g (ql es) o).1))
section
variable {w w' : World} {l gc : Nat} {s : St} {g : Gr} {es : List Qe} {is what : Int} {ran : List Int} {a : Ra} {R : Option Addr} {nr kr : Nat}
theorem CA.ge (h : CA w l gc s g es is what ran a R nr kr) : ∀ i, CS gc a.Q R i → l ≤ i := by
  rintro i (rfl | ⟨b, hb, rfl⟩ | ⟨b, hb, rfl⟩)
  · exact h.lg
  · exact (h.qs.blk b hb).1
  · exact (h.rn.blk b hb).1
theorem CA.low (h : CA w l gc s g es is what ran a R nr kr) : l ≤ w.heap.size := by have := h.box.lt; have := h.lg; omega
theorem ql_at (es : List Qe) {k : Nat} (hk : k < es.length) : (ql es)[k]?.getD ([], 0) = ((es[k]?.getD zQe).l, (es[k]?.getD zQe).o) := by
  unfold ql
  rw [List.getElem?_map, List.getElem?_eq_getElem hk]; rfl
theorem ql_len (es : List Qe) : (ql es).length = es.length := by unfold ql; rw [List.length_map]
theorem ql_set (es : List Qe) (k : Nat) (x : Qe) : ql (es.set k x) = (ql es).set k (x.l, x.o) := by unfold ql; rw [List.map_set]
theorem ql_mem {es : List Qe} {x : Qe} (h : x ∈ es) : (x.l, x.o) ∈ ql es := List.mem_map.2 ⟨x, h, rfl⟩
end
section
variable {w w' : World} {l gc : Nat} {s : St} {g : Gr} {es : List Qe} {what : Int} {ran : List Int} {a : Ra} {R : Option Addr} {nr kr cp : Nat}
theorem opF_lt {s : St} {g : Gr} {qs : Qs} {k : Int} {cp : Nat} {x : Int} (hk : 1 ≤ k ∧ k ≤ 5) (hc : cp < qs.length) : opF s g qs (k, (cp : Int), x) =
    if k = 1 ∨ k = 2 then (stC s ((cp : Int), decide (k = 1)), stN s ((cp : Int), decide (k = 1)), g, qs, [])
    else if k = 3 then (if 2147483645 < gNext g then (6, s, g, qs, []) else
      ((putF (qs[cp]?.getD ([], 0)).2 (qs[cp]?.getD ([], 0)).1 x (gNext g - g.dn)).2.2, s, gAsk g, qs.set cp ((putF (qs[cp]?.getD ([], 0)).2 (qs[cp]?.getD ([], 0)).1 x (gNext g - g.dn)).2.1, (putF (qs[cp]?.getD ([], 0)).2 (qs[cp]?.getD ([], 0)).1 x (gNext g - g.dn)).1), []))
    else if k = 4 then (0, s, gPick g cp (decide (s.2.1[cp]?.getD 0 = 0)), overs g.dn (gPick g cp (decide (s.2.1[cp]?.getD 0 = 0))).dn qs, [])
    else ((takeF (qs[cp]?.getD ([], 0)).2 (qs[cp]?.getD ([], 0)).1).2.2.2, s, g, qs.set cp ((takeF (qs[cp]?.getD ([], 0)).2 (qs[cp]?.getD ([], 0)).1).2.1, (takeF (qs[cp]?.getD ([], 0)).2 (qs[cp]?.getD ([], 0)).1).1), [(takeF (qs[cp]?.getD ([], 0)).2 (qs[cp]?.getD ([], 0)).1).2.2.1]) := by
  unfold opF
  rw [if_neg (by show ¬ (k < 1 ∨ 5 < k); omega), if_neg (by show ¬ ((cp : Int) < 0 ∨ (qs.length : Int) ≤ cp); omega)]
  simp only [Int.toNat_natCast]
theorem m_reads (ent : Bool) (F : Nat) (hF : F = if ent then 72 else 73) (h : CA w l gc s g es cp what ran a R nr kr) (hg : RcGood s g (ql es)) (hc : cp < es.length) (x : Int) :
    Calls Tryz.prog F #[ptr gc] w (MPost l gc s g es ran a nr (if ent then 1 else 2, (cp : Int), x) w) := by
  have e : opF s g (ql es) (if ent then 1 else 2, (cp : Int), x) = (stC s ((cp : Int), ent), stN s ((cp : Int), ent), g, ql es, []) := by
    rw [opF_lt (by cases ent <;> decide) (by rw [ql_len]; exact hc)]
    cases ent <;> simp
  unfold MPost
  rw [e]
  have hge := h.ge
  by_cases h0 : stC s ((cp : Int), ent) = 0
  · cases ent
    · subst hF
      refine (rleave_yes l gc s g es cp what ran a R nr kr w h hg.1.1 h0).mono ?_
      rintro y w' ⟨rfl, ⟨a', k1, k2, k3, k4⟩, k5⟩
      exact ⟨k5.mono hge, .inl ⟨h0, rfl, a', es, _, _, R, nr, kr, k1, k2, by omega, rfl, by rw [List.append_nil]; exact k4⟩⟩
    · subst hF
      refine (renter_yes l gc s g es cp what ran a R nr kr w h hg.1.1 h0).mono ?_
      rintro y w' ⟨rfl, ⟨a', k1, k2, k3, k4⟩, k5⟩
      exact ⟨k5.mono hge, .inl ⟨h0, rfl, a', es, _, _, R, nr, kr, k1, k2, by omega, rfl, by rw [List.append_nil]; exact k4⟩⟩
  · cases ent
    · subst hF
      refine (rleave_no l gc s g es cp what ran a R nr kr w h hg.1.1 h0).mono ?_
      rintro y w' ⟨rfl, k5⟩
      exact ⟨.ofBelow k5, .inr ⟨h0, rfl⟩⟩
    · subst hF
      refine (renter_no l gc s g es cp what ran a R nr kr w h hg.1.1 h0).mono ?_
      rintro y w' ⟨rfl, k5⟩
      exact ⟨.ofBelow k5, .inr ⟨h0, rfl⟩⟩
theorem putF_shape (o : Int) (l : List Cb) (x d : Int) : (putF o l x d).2.2 = 0 ∧ (putF o l x d) = (o, l ++ [(o + d, x)], 0) ∨ (putF o l x d).2.2 ≠ 0 ∧ putF o l x d = (0, [], (putF o l x d).2.2) := by
  unfold putF
  split
  · exact .inr ⟨by simp, rfl⟩
  · split
    · exact .inr ⟨by simp, rfl⟩
    · split
      · exact .inr ⟨by simp, rfl⟩
      · split
        · exact .inr ⟨by simp, rfl⟩
        · exact .inl ⟨rfl, rfl⟩
theorem takeF_shape (o : Int) (l : List Cb) : (takeF o l).2.2.2 = 0 ∧ takeF o l = (o, l.drop 1, (l[0]?.getD (0, 0)).2, 0) ∨ (takeF o l).2.2.2 ≠ 0 ∧ takeF o l = (0, [], 0, (takeF o l).2.2.2) := by
  unfold takeF
  split
  · exact .inr ⟨by simp, rfl⟩
  · split
    · exact .inr ⟨by simp, rfl⟩
    · exact .inl ⟨rfl, rfl⟩
theorem m_call (h : CA w l gc s g es cp what ran a R nr kr) (hg : RcGood s g (ql es)) (hc : cp < es.length) :
    Calls Tryz.prog 74 #[ptr gc] w (MPost l gc s g es ran a nr (3, (cp : Int), what) w) := by
  have hlen : a.nq = es.length := h.qs.len.symm
  have h8 := hg.1.2.1.2.1
  have hql := hg.2.1
  rw [ql_len] at hql
  unfold MPost
  rw [opF_lt (by decide) (by rw [ql_len]; exact hc), if_neg (by decide), if_pos rfl, ql_at es hc]
  dsimp only
  have hge := h.ge
  have hmem : es[cp]?.getD zQe ∈ es := by rw [List.getElem?_eq_getElem hc]; exact List.getElem_mem _
  obtain ⟨hq1, hq2, hq3⟩ := hg.2.2 _ (ql_mem hmem)
  by_cases hf : 2147483645 < gNext g
  · rw [if_pos hf]
    refine (rcall_full l gc s g es cp what ran a R nr kr w h (by omega) (by omega) _ rfl hg.1.2.1 (by omega)).mono ?_
    rintro y w' ⟨rfl, k5⟩
    exact ⟨.ofBelow k5, .inr ⟨by simp, rfl⟩⟩
  · rw [if_neg hf]
    rcases putF_shape (es[cp]?.getD zQe).o (es[cp]?.getD zQe).l what (gNext g - g.dn) with ⟨h0, he⟩ | ⟨h0, he⟩
    · rw [he]
      refine (rcall_yes l gc s g es cp what ran a R nr kr w h (by omega) (by omega) _ rfl hg.1.2.1 (by omega) _ _ he (by have := hg.1.2.1.small; dsimp only at hq2; omega) (by rw [List.length_append]; have := hq1.2.1; dsimp only at this; simp; omega)).mono ?_
      rintro y w' ⟨rfl, ⟨a', k1, k2, k3, A, n, c, k4⟩, k5⟩
      exact ⟨k5.mono hge, .inl ⟨rfl, rfl, a', _, _, _, R, nr, kr, k1, k2, by omega, ql_set _ _ _, by rw [List.append_nil]; exact k4⟩⟩
    · rw [he]
      refine (rcall_err l gc s g es cp what ran a R nr kr w h (by omega) (by omega) _ rfl hg.1.2.1 (by omega) _ he h0).mono ?_
      rintro y w' ⟨rfl, k5⟩
      exact ⟨.ofBelow k5, .inr ⟨h0, rfl⟩⟩
theorem m_run (h : CA w l gc s g es cp what ran a R nr kr) (hg : RcGood s g (ql es)) (hc : cp < es.length) (hnr : nr ≤ 1000000) (x : Int) :
    Calls Tryz.prog 51 #[ptr gc] w (MPost l gc s g es ran a nr (5, (cp : Int), x) w) := by
  have hlen : a.nq = es.length := h.qs.len.symm
  have h8 := hg.1.2.1.2.1
  have hql := hg.2.1
  rw [ql_len] at hql
  unfold MPost
  rw [opF_lt (by decide) (by rw [ql_len]; exact hc), if_neg (by decide), if_neg (by decide), if_neg (by decide), ql_at es hc]
  dsimp only
  have hge := h.ge
  have hmem : es[cp]?.getD zQe ∈ es := by rw [List.getElem?_eq_getElem hc]; exact List.getElem_mem _
  obtain ⟨hq1, hq2, hq3⟩ := hg.2.2 _ (ql_mem hmem)
  rcases takeF_shape (es[cp]?.getD zQe).o (es[cp]?.getD zQe).l with ⟨h0, he⟩ | ⟨h0, he⟩
  · rw [he]
    refine (rrun_yes l gc s g es cp what ran a R nr kr w h (by omega) (by omega) _ rfl _ _ _ he (by have := hg.1.2.1.small; dsimp only at hq2; omega) (by rw [List.length_drop]; have := hq1.2.1; dsimp only at this; omega) hnr).mono ?_
    rintro y w' ⟨rfl, ⟨R', kr', A, n, c, k4⟩, k5⟩
    exact ⟨k5.mono hge, .inl ⟨rfl, rfl, a, _, _, _, R', nr + 1, kr', rfl, rfl, Nat.le_refl _, ql_set _ _ _, k4⟩⟩
  · rw [he]
    refine (rrun_no l gc s g es cp what ran a R nr kr w h (by omega) (by omega) _ rfl _ he h0).mono ?_
    rintro y w' ⟨rfl, k5⟩
    exact ⟨.ofBelow k5, .inr ⟨h0, rfl⟩⟩
theorem m_pick (h : CA w l gc s g es cp what ran a R nr kr) (hg : RcGood s g (ql es)) (hc : cp < es.length) (x : Int) :
    Calls Tryz.prog 49 #[ptr gc] w (MPost l gc s g es ran a nr (4, (cp : Int), x) w) := by
  have hlen : a.nq = es.length := h.qs.len.symm
  have h8 := hg.1.2.1.2.1
  have hql := hg.2.1
  rw [ql_len] at hql
  unfold MPost
  rw [opF_lt (by decide) (by rw [ql_len]; exact hc), if_neg (by decide), if_neg (by decide), if_pos rfl]
  dsimp only
  have hge := h.ge
  refine (rpick_any l gc s g es cp what ran a R nr kr w h (by omega) (by omega) (by omega) hg.1.2.1 (decide (s.2.1[cp]?.getD 0 = 0)) ?_ (fun x hx => ⟨(hg.2.2 _ (ql_mem hx)).1, (hg.2.2 _ (ql_mem hx)).2.1⟩)).mono ?_
  · rw [decide_eq_decide]
    constructor
    · exact fun h => by have := h.2.2.2; rwa [Int.toNat_natCast] at this
    · exact fun h => ⟨hg.1.1, by omega, by rw [hg.1.2.2]; omega, by rw [Int.toNat_natCast]; exact h⟩
  · rintro y w' ⟨rfl, ⟨a', k1, k2, k3, es', k6, k4⟩, k5⟩
    exact ⟨k5.mono hge, .inl ⟨rfl, rfl, a', es', _, _, R, nr, kr, k1, k2, by omega, k6, by rw [List.append_nil]; exact k4⟩⟩
end
end Go.Proofs.YtfipdoofgbjbjaaGreat
