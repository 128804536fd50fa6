/- package rcu: enter, leave. No condition but sizes. -/
import Derived.Test.YtfipdoofgbjbjaaRc5
namespace Go.Proofs.Ytfipdoofgbjbjaa
open Go.RowKit
attribute [local go_sem] Oper.semAt_some
theorem Om.stored2 {α : Type} {enc : α → Nat → Value} {w : World} {lo : Nat} {e : TypeId} {g n c : Nat} {xs : List α} (h : Om 2 enc w lo e (some ⟨g, 0, none⟩) n c xs) (i : Nat) (s : α) (hi : i < n) :
    Om 2 enc ((w.setCell ⟨g, i * 2, none⟩ (enc s 0)).setCell ⟨g, i * 2 + 1, none⟩ (enc s 1)) lo e (some ⟨g, 0, none⟩) n c (xs.set i s) := by
  refine ⟨by rw [List.length_set, h.len], ?_⟩
  rw [flat_set2, if_pos (by rw [h.len]; exact hi)]
  exact ((h.own.stored (i * 2) (enc s 0)).1.stored (i * 2 + 1) (enc s 1)).1
section
variable {w w' : World} {l gc : Nat} {s : St} {g : Gr} {es : List Qe} {is what : Int} {ran : List Int} {a : Ra} {R : Option Addr} {nr kr : Nat}
/-- its box is stored to -/
theorem CA.stored (h : CA w l gc s g es is what ran a R nr kr) (hg : w.grownBy w' (some gc)) {s' : St} {g' : Gr} {a' : Ra} {is' what' : Int} (hb : Blk w' gc 79 (ccells s' g' a' is' what' R nr kr)) (hro : Rown w l a'.A a'.n a'.k a'.B a'.m a'.d s'.2.1 s'.2.2)
    (hgd : Ow blv w l 4 a'.D g'.nd.length a'.kd g'.nd) (h1 : a'.Q = a.Q) (h2 : a'.nq = a.nq) (h3 : a'.kq = a.kq) : CA w' l gc s' g' es is' what' ran a' R nr kr := by
  refine ⟨hb, hro.keptR h.box (by decide) hg, hgd.keptR h.box (by decide) hg, by rw [h1, h2, h3]; exact h.qs.keptR h.box (by decide) hg, h.rn.keptR h.box (by decide) hg, fun x hx => ?_, h.lg⟩
  rw [h1]
  obtain ⟨k1, k2, k3, k4, k5⟩ := h.qe x hx
  exact ⟨k1.keptP (GrownP.ofGrown (p := fun i => i = gc) hg rfl) (fun hn b hb e => k5 hn b hb (.inl e)), k2, k3, k4, k5⟩
/-- a queue is stored -/
theorem CA.put (h : CA w l gc s g es is what ran a R nr kr) {gQ k : Nat} (hQ : a.Q = some ⟨gQ, 0, none⟩) (hk : k < a.nq) (x : Qe) (hx : QeO w l (CS gc a.Q R) x) :
    CA ((w.setCell ⟨gQ, k * 2, none⟩ (encQ x 0)).setCell ⟨gQ, k * 2 + 1, none⟩ (encQ x 1)) l gc s g (es.set k x) is what ran a R nr kr := by
  have hg : w.grownBy ((w.setCell ⟨gQ, k * 2, none⟩ (encQ x 0)).setCell ⟨gQ, k * 2 + 1, none⟩ (encQ x 1)) (some gQ) := grown_set (grown_set (World.grownBy.refl _ _) _ _) _ _
  obtain ⟨_, cs, hbq⟩ := h.qs.blk _ hQ
  have hst : ∀ y, QeO w l (CS gc a.Q R) y → QeO ((w.setCell ⟨gQ, k * 2, none⟩ (encQ x 0)).setCell ⟨gQ, k * 2 + 1, none⟩ (encQ x 1)) l (CS gc a.Q R) y := fun y ⟨k1, k2, k3, k4, k5⟩ =>
    ⟨k1.keptP (GrownP.ofGrown (p := fun i => i = gQ) hg rfl) (fun hn b hb e => k5 hn b hb (.inr (.inl ⟨_, hQ, e⟩))), k2, k3, k4, k5⟩
  refine ⟨h.box.grown hg (fun e => h.qs.ne_blk h.box (by decide) _ hQ (Option.some.inj e).symm), h.ro.keptR hbq (by decide) hg, h.gd.keptR hbq (by decide) hg, ?_, h.rn.keptR hbq (by decide) hg, fun y hy => ?_, h.lg⟩
  · have := h.qs
    rw [hQ] at this ⊢
    exact this.stored2 k x hk
  · rcases List.mem_or_eq_of_mem_set hy with hy | rfl
    · exact hst y (h.qe y hy)
    · exact hst _ hx
/-- a queue, read off its cells -/
theorem CA.q_at (h : CA w l gc s g es is what ran a R nr kr) {k : Nat} (hk : k < a.nq) : ∃ gQ, a.Q = some ⟨gQ, 0, none⟩ ∧ w.cell? ⟨gQ, k * 2, none⟩ = some (.slice (es[k]?.getD zQe).A (es[k]?.getD zQe).n (es[k]?.getD zQe).c) ∧ w.cell? ⟨gQ, k * 2 + 1, none⟩ = some (.int .u64 (es[k]?.getD zQe).o) ∧ (∀ i, w.frozen? ⟨gQ, i, none⟩ = false) ∧ es[k]?.getD zQe ∈ es := by
  obtain ⟨gQ, h1, h2, h3, h4, h5⟩ := h.qs.at_ zQe hk
  refine ⟨gQ, h1, h4 0 (by omega), h4 1 (by omega), h5, ?_⟩
  have hl : k < es.length := by rw [h.qs.len]; exact hk
  rw [List.getElem?_eq_getElem hl]
  exact List.getElem_mem _
end
set_option maxRecDepth 100000 in
set_option maxHeartbeats 4000000 in
theorem renter_yes (l gc : Nat) (s : St) (g : Gr) (es : List Qe) (is what : Int) (ran : List Int) (a : Ra) (R : Option Addr) (nr kr : Nat) (w : World) (h : CA w l gc s g es is what ran a R nr kr) (hg : Good s.1 s.2.1 s.2.2) (hs : stC s (is, true) = 0) :
    Calls Try.prog 53 #[ptr gc] w fun x w' => x = .returned (.tuple #[]) ∧ (∃ a', a'.Q = a.Q ∧ a'.nq = a.nq ∧ a'.kq = a.kq ∧ CA w' l gc (stN s (is, true)) g es is what ran a' R nr kr) ∧ GrownP (CS gc a.Q R) w w' := by
  obtain ⟨A, n, k, B, m, d, D, kd, Q, nq, kq⟩ := a
  obtain ⟨now, ns, os⟩ := s
  have HC := hid h; have HB := hid (Below.refl w.heap.size w); have HG := hid hg; have HS := hid hs
  clear h hg hs
  go_enter Try.func53, Try.ntmps53
  go_upto_region 0 with fail
  have hon := hid (show oneF now ns os (is, true) = (0, stN (now, ns, os) (is, true)) from oneF_ok HG.out HS.out)
  obtain ⟨sn, hsn⟩ : ∃ x, x = stN (now, ns, os) (is, true) := ⟨_, rfl⟩
  rw [← hsn] at hon ⊢
  clear hsn
  obtain ⟨nw, nss, oss⟩ := sn
  have hlw := hid (show gc < w.heap.size from HC.out.box.lt)
  have bx := (Below.refl w.heap.size w).drew
  replace HC := hid (HC.out.step bx); replace HB := hid (below_then HB.out bx)
  clear bx
  have hszd := hid (show w.drew.heap.size = w.heap.size from rfl)
  refine wp_region_noPanic ?_
  refine wp_region_held_tail 14 (fun W' : World => W'.cell? ⟨gc, 0, none⟩ = some (.int .i64 now) ∧ W'.cell? ⟨gc, 1, none⟩ = some (.slice A n k) ∧ W'.cell? ⟨gc, 2, none⟩ = some (.slice B m d) ∧ W'.cell? ⟨gc, 8, none⟩ = some (.int .i64 is)) #[false, false, false, false, false, false, false, false, false, false, false, false, false, false, false, false, false, false] (by kernel_rfl) ⟨(HC.out.box).cells11.1, (HC.out.box).cells11.2.1, (HC.out.box).cells11.2.2.1, (HC.out.box).cells11.2.2.2.2.2.2.2.2.1⟩ (by kernel_rfl) (by kernel_rfl) (fun hS => ?_)
  generalize w.drew = Wd at *
  refine wpAnyT_take (i := 0) (v := ?_) (by kernel_rfl) (by simp only [List.getElem?_toArray, List.getElem?_cons_succ, List.getElem?_cons_zero]; rfl) (by kernel_rfl) (fun _ _ _ h => h) (Or.inl ⟨by rfl, ?_⟩) hS ?_
  rotate_left
  · intro w' hSw; (try dsimp only at hSw); go_split_ands; go_simp; (try with_reducible rfl)
  (try simp only [Act.put, List.setIfInBounds_toArray, List.set_cons_zero, List.set_cons_succ])
  refine wpAnyT_take (i := 1) (v := ?_) (by kernel_rfl) (by simp only [List.getElem?_toArray, List.getElem?_cons_succ, List.getElem?_cons_zero]; rfl) (by kernel_rfl) (fun _ _ _ h => h) (Or.inl ⟨by rfl, ?_⟩) hS ?_
  rotate_left
  · intro w' hSw; (try dsimp only at hSw); go_split_ands; go_simp; (try with_reducible rfl)
  (try simp only [Act.put, List.setIfInBounds_toArray, List.set_cons_zero, List.set_cons_succ])
  refine wpAnyT_take (i := 2) (v := ?_) (by kernel_rfl) (by simp only [List.getElem?_toArray, List.getElem?_cons_succ, List.getElem?_cons_zero]; rfl) (by kernel_rfl) (fun _ _ _ h => h) (Or.inl ⟨by rfl, ?_⟩) hS ?_
  rotate_left
  · intro w' hSw; (try dsimp only at hSw); go_split_ands; go_simp; (try with_reducible rfl)
  (try simp only [Act.put, List.setIfInBounds_toArray, List.set_cons_zero, List.set_cons_succ])
  refine wpAnyT_take (i := 3) (v := ?_) (by kernel_rfl) (by simp only [List.getElem?_toArray, List.getElem?_cons_succ, List.getElem?_cons_zero]; rfl) (by kernel_rfl) (fun _ _ _ h => h) (Or.inl ⟨by rfl, ?_⟩) hS ?_
  rotate_left
  · intro w' hSw; (try dsimp only at hSw); go_split_ands; go_simp; (try with_reducible rfl)
  (try simp only [Act.put, List.setIfInBounds_toArray, List.set_cons_zero, List.set_cons_succ])
  refine wpAnyT_take (i := 4) (v := ?_) (by kernel_rfl) (by simp only [List.getElem?_toArray, List.getElem?_cons_succ, List.getElem?_cons_zero]; rfl) (by kernel_rfl) (fun _ _ _ h => h) (Or.inl ⟨by rfl, ?_⟩) hS ?_
  rotate_left
  · intro w' hSw; (try dsimp only at hSw); go_split_ands; go_simp; (try with_reducible rfl)
  (try simp only [Act.put, List.setIfInBounds_toArray, List.set_cons_zero, List.set_cons_succ])
  refine wpAnyT_take (i := 5) (v := ?_) (by kernel_rfl) (by simp only [List.getElem?_toArray, List.getElem?_cons_succ, List.getElem?_cons_zero]; rfl) (by kernel_rfl) (fun _ _ _ h => h) (Or.inl ⟨by rfl, ?_⟩) hS ?_
  rotate_left
  · intro w' hSw; (try dsimp only at hSw); go_split_ands; go_simp; (try with_reducible rfl)
  (try simp only [Act.put, List.setIfInBounds_toArray, List.set_cons_zero, List.set_cons_succ])
  refine wpAnyT_take (i := 6) (v := ?_) (by kernel_rfl) (by simp only [List.getElem?_toArray, List.getElem?_cons_succ, List.getElem?_cons_zero]; rfl) (by kernel_rfl) (fun _ _ _ h => h) (Or.inl ⟨by rfl, ?_⟩) hS ?_
  rotate_left
  · intro w' hSw; (try dsimp only at hSw); go_split_ands; go_simp; (try with_reducible rfl)
  (try simp only [Act.put, List.setIfInBounds_toArray, List.set_cons_zero, List.set_cons_succ])
  refine wpAnyT_take (i := 7) (v := ?_) (by kernel_rfl) (by simp only [List.getElem?_toArray, List.getElem?_cons_succ, List.getElem?_cons_zero]; rfl) (by kernel_rfl) (fun _ _ _ h => h) (Or.inl ⟨by rfl, ?_⟩) hS ?_
  rotate_left
  · intro w' hSw; (try dsimp only at hSw); go_split_ands; go_simp; (try with_reducible rfl)
  (try simp only [Act.put, List.setIfInBounds_toArray, List.set_cons_zero, List.set_cons_succ])
  refine wpAnyT_take (i := 8) (v := ?_) (by kernel_rfl) (by simp only [List.getElem?_toArray, List.getElem?_cons_succ, List.getElem?_cons_zero]; rfl) (by kernel_rfl) (fun _ _ _ h => h) (Or.inl ⟨by rfl, ?_⟩) hS ?_
  rotate_left
  · intro w' hSw; (try dsimp only at hSw); go_split_ands; go_simp; (try with_reducible rfl)
  (try simp only [Act.put, List.setIfInBounds_toArray, List.set_cons_zero, List.set_cons_succ])
  refine wpAnyT_take (i := 9) (v := ?_) (by kernel_rfl) (by simp only [List.getElem?_toArray, List.getElem?_cons_succ, List.getElem?_cons_zero]; rfl) (by kernel_rfl) (fun _ _ _ h => h) (Or.inl ⟨by rfl, ?_⟩) hS ?_
  rotate_left
  · intro w' hSw; (try dsimp only at hSw); go_split_ands; go_simp; (try with_reducible rfl)
  (try simp only [Act.put, List.setIfInBounds_toArray, List.set_cons_zero, List.set_cons_succ])
  refine wpAnyT_ready [10] (by kernel_rfl) (by simp) ?_
  refine AllReadyT.cons (by simp only [List.getElem?_toArray, List.getElem?_cons_succ, List.getElem?_cons_zero]; rfl) rfl (fun K hK => ?_) ?_
  · skip
    go_simp
    refine ((show Calls Try.prog 73 #[rv now A n k B m d, .int .i64 is] _ (OnePost _ (0, nw, nss, oss)) from hon.out ▸ enter1_any now A n k B m d ns os is _ HC.out.ro.rds)).mono ?_
    rintro e w10 ⟨A1, n1, c1, B1, m1, d1, rfl, hro, hb⟩
    have hsz0 := hid (show Wd.heap.size ≤ w10.heap.size from hb.size)
    replace HC := hid (HC.out.step hb); replace HB := hid (below_then HB.out hb)
    clear hb
    have RO := hid (hro.mono (show l ≤ _ by have := HC.out.lg; have := hlw.out; have := hszd.out; omega))
    clear hro
    go_wp2_with fail
    have hS' : (fun W' : World => W'.cell? ⟨gc, 0, none⟩ = some (.int .i64 now) ∧ W'.cell? ⟨gc, 1, none⟩ = some (.slice A n k) ∧ W'.cell? ⟨gc, 2, none⟩ = some (.slice B m d) ∧ W'.cell? ⟨gc, 8, none⟩ = some (.int .i64 is)) _ := ⟨(HC.out.box).cells11.1, (HC.out.box).cells11.2.1, (HC.out.box).cells11.2.2.1, (HC.out.box).cells11.2.2.2.2.2.2.2.2.1⟩
    refine hK.out _ _ hS' ?_
    clear hK K hS
    have hS := hS'
    clear hS'
    (try simp only [Act.put, List.setIfInBounds_toArray, List.set_cons_zero, List.set_cons_succ])
    refine wpAnyT_take (i := 11) (v := ?_) (by kernel_rfl) (by simp only [List.getElem?_toArray, List.getElem?_cons_succ, List.getElem?_cons_zero]; rfl) (by kernel_rfl) (fun _ _ _ h => h) (Or.inl ⟨by rfl, ?_⟩) hS ?_
    rotate_left
    · intro w' hSw; (try dsimp only at hSw); go_split_ands; go_simp; (try with_reducible rfl)
    (try simp only [Act.put, List.setIfInBounds_toArray, List.set_cons_zero, List.set_cons_succ])
    refine wpAnyT_take (i := 12) (v := ?_) (by kernel_rfl) (by simp only [List.getElem?_toArray, List.getElem?_cons_succ, List.getElem?_cons_zero]; rfl) (by kernel_rfl) (fun _ _ _ h => h) (Or.inl ⟨by rfl, ?_⟩) hS ?_
    rotate_left
    · intro w' hSw; (try dsimp only at hSw); go_split_ands; go_simp; (try with_reducible rfl)
    (try simp only [Act.put, List.setIfInBounds_toArray, List.set_cons_zero, List.set_cons_succ])
    refine wpAnyT_ready [13] (by kernel_rfl) (by simp) ?_
    refine AllReadyT.cons (by simp only [List.getElem?_toArray, List.getElem?_cons_succ, List.getElem?_cons_zero]; rfl) rfl (fun K hK => ?_) ?_
    · skip
      go_simp
      refine (sureR_yes nw A1 n1 c1 B1 m1 d1 _).mono ?_
      rintro e w13 ⟨rfl, hb⟩
      have hsz1 := hid (show w10.heap.size ≤ w13.heap.size from hb.size)
      replace HC := hid (HC.out.step hb); replace RO := hid (RO.out.step hb); replace HB := hid (below_then HB.out hb)
      clear hb
      go_wp2_with fail
      have hS' : (fun W' : World => W'.cell? ⟨gc, 0, none⟩ = some (.int .i64 now) ∧ W'.cell? ⟨gc, 1, none⟩ = some (.slice A n k) ∧ W'.cell? ⟨gc, 2, none⟩ = some (.slice B m d) ∧ W'.cell? ⟨gc, 8, none⟩ = some (.int .i64 is)) _ := ⟨(HC.out.box).cells11.1, (HC.out.box).cells11.2.1, (HC.out.box).cells11.2.2.1, (HC.out.box).cells11.2.2.2.2.2.2.2.2.1⟩
      refine hK.out _ _ hS' ?_
      clear hK K hS
      have hS := hS'
      clear hS'
      (try simp only [Act.put, List.setIfInBounds_toArray, List.set_cons_zero, List.set_cons_succ])
      refine wpAnyT_done (by kernel_rfl) ?_
      simp only [List.drop_succ_cons, List.drop_zero]
      clear hS
      obtain ⟨y0, y1, y2, y3, y4, y5, y6, y7, y8, y9, y10, yf⟩ := HC.out.box.cells11
      go_wp2_with fail
      refine NoPanic.normal ?_
      clear y0 y1 y2 y3 y4 y5 y6 y7 y8 y9 y10 yf
      (try go_end0)
      have hgr := grown_set (grown_set (grown_set (World.grownBy.refl w13 (some gc)) 0 (.int .i64 nw)) 1 (.slice A1 n1 c1)) 2 (.slice B1 m1 d1)
      refine ⟨rfl, ⟨⟨A1, n1, c1, B1, m1, d1, D, kd, Q, nq, kq⟩, rfl, rfl, rfl, HC.out.stored hgr (((HC.out.box.setCell 0 _).setCell 1 _).setCell 2 _) RO.out HC.out.gd rfl rfl rfl⟩, ((GrownP.ofBelow (p := CS gc Q R) HB.out).trans (GrownP.ofGrown hgr (.inl rfl)))⟩
    exact AllReadyT.nil
  exact AllReadyT.nil
set_option maxRecDepth 100000 in
set_option maxHeartbeats 4000000 in
theorem renter_no (l gc : Nat) (s : St) (g : Gr) (es : List Qe) (is what : Int) (ran : List Int) (a : Ra) (R : Option Addr) (nr kr : Nat) (w : World) (h : CA w l gc s g es is what ran a R nr kr) (hg : Good s.1 s.2.1 s.2.2) (hs : stC s (is, true) ≠ 0) :
    Calls Try.prog 53 #[ptr gc] w fun x w' => x = Go.Proofs.Ytfipdoofgbjbjaa.leaves (stC s (is, true)) ∧ Below w.heap.size w w' := by
  obtain ⟨A, n, k, B, m, d, D, kd, Q, nq, kq⟩ := a
  obtain ⟨now, ns, os⟩ := s
  have HC := hid h; have HB := hid (Below.refl w.heap.size w); have HG := hid hg; have HS := hid hs
  clear h hg hs
  go_enter Try.func53, Try.ntmps53
  go_upto_region 0 with fail
  have hon := hid (show oneF now ns os (is, true) = (stC (now, ns, os) (is, true), (0, [], [])) from oneF_err HG.out HS.out)
  obtain ⟨cd, hcd⟩ : ∃ x, x = stC (now, ns, os) (is, true) := ⟨_, rfl⟩
  rw [← hcd] at hon HS ⊢
  clear hcd
  have bx := (Below.refl w.heap.size w).drew
  replace HC := hid (HC.out.step bx); replace HB := hid (below_then HB.out bx)
  clear bx
  have hszd := hid (show w.drew.heap.size = w.heap.size from rfl)
  refine wp_region_qp ?_
  refine wp_region_held_drew (S := (fun W' : World => W'.cell? ⟨gc, 0, none⟩ = some (.int .i64 now) ∧ W'.cell? ⟨gc, 1, none⟩ = some (.slice A n k) ∧ W'.cell? ⟨gc, 2, none⟩ = some (.slice B m d) ∧ W'.cell? ⟨gc, 8, none⟩ = some (.int .i64 is))) (by kernel_rfl) ⟨(HC.out.box).cells11.1, (HC.out.box).cells11.2.1, (HC.out.box).cells11.2.2.1, (HC.out.box).cells11.2.2.2.2.2.2.2.2.1⟩ (fun hS => ?_)
  generalize w.drew = Wd at *
  refine wpAnyH_take (i := 0) (v := ?_) (by simp only [List.getElem?_toArray, List.getElem?_cons_succ, List.getElem?_cons_zero]; rfl) (by kernel_rfl) (by kernel_rfl) (by kernel_rfl) (fun _ _ _ h => QP.put h) (Or.inl ⟨by rfl, ?_⟩) hS ?_
  rotate_left
  · intro w' hSw; (try dsimp only at hSw); go_split_ands; go_simp; (try with_reducible rfl)
  (try simp only [Act.put, List.setIfInBounds_toArray, List.set_cons_zero, List.set_cons_succ])
  refine wpAnyH_take (i := 1) (v := ?_) (by simp only [List.getElem?_toArray, List.getElem?_cons_succ, List.getElem?_cons_zero]; rfl) (by kernel_rfl) (by kernel_rfl) (by kernel_rfl) (fun _ _ _ h => QP.put h) (Or.inl ⟨by rfl, ?_⟩) hS ?_
  rotate_left
  · intro w' hSw; (try dsimp only at hSw); go_split_ands; go_simp; (try with_reducible rfl)
  (try simp only [Act.put, List.setIfInBounds_toArray, List.set_cons_zero, List.set_cons_succ])
  refine wpAnyH_take (i := 2) (v := ?_) (by simp only [List.getElem?_toArray, List.getElem?_cons_succ, List.getElem?_cons_zero]; rfl) (by kernel_rfl) (by kernel_rfl) (by kernel_rfl) (fun _ _ _ h => QP.put h) (Or.inl ⟨by rfl, ?_⟩) hS ?_
  rotate_left
  · intro w' hSw; (try dsimp only at hSw); go_split_ands; go_simp; (try with_reducible rfl)
  (try simp only [Act.put, List.setIfInBounds_toArray, List.set_cons_zero, List.set_cons_succ])
  refine wpAnyH_take (i := 3) (v := ?_) (by simp only [List.getElem?_toArray, List.getElem?_cons_succ, List.getElem?_cons_zero]; rfl) (by kernel_rfl) (by kernel_rfl) (by kernel_rfl) (fun _ _ _ h => QP.put h) (Or.inl ⟨by rfl, ?_⟩) hS ?_
  rotate_left
  · intro w' hSw; (try dsimp only at hSw); go_split_ands; go_simp; (try with_reducible rfl)
  (try simp only [Act.put, List.setIfInBounds_toArray, List.set_cons_zero, List.set_cons_succ])
  refine wpAnyH_take (i := 4) (v := ?_) (by simp only [List.getElem?_toArray, List.getElem?_cons_succ, List.getElem?_cons_zero]; rfl) (by kernel_rfl) (by kernel_rfl) (by kernel_rfl) (fun _ _ _ h => QP.put h) (Or.inl ⟨by rfl, ?_⟩) hS ?_
  rotate_left
  · intro w' hSw; (try dsimp only at hSw); go_split_ands; go_simp; (try with_reducible rfl)
  (try simp only [Act.put, List.setIfInBounds_toArray, List.set_cons_zero, List.set_cons_succ])
  refine wpAnyH_take (i := 5) (v := ?_) (by simp only [List.getElem?_toArray, List.getElem?_cons_succ, List.getElem?_cons_zero]; rfl) (by kernel_rfl) (by kernel_rfl) (by kernel_rfl) (fun _ _ _ h => QP.put h) (Or.inl ⟨by rfl, ?_⟩) hS ?_
  rotate_left
  · intro w' hSw; (try dsimp only at hSw); go_split_ands; go_simp; (try with_reducible rfl)
  (try simp only [Act.put, List.setIfInBounds_toArray, List.set_cons_zero, List.set_cons_succ])
  refine wpAnyH_take (i := 6) (v := ?_) (by simp only [List.getElem?_toArray, List.getElem?_cons_succ, List.getElem?_cons_zero]; rfl) (by kernel_rfl) (by kernel_rfl) (by kernel_rfl) (fun _ _ _ h => QP.put h) (Or.inl ⟨by rfl, ?_⟩) hS ?_
  rotate_left
  · intro w' hSw; (try dsimp only at hSw); go_split_ands; go_simp; (try with_reducible rfl)
  (try simp only [Act.put, List.setIfInBounds_toArray, List.set_cons_zero, List.set_cons_succ])
  refine wpAnyH_take (i := 7) (v := ?_) (by simp only [List.getElem?_toArray, List.getElem?_cons_succ, List.getElem?_cons_zero]; rfl) (by kernel_rfl) (by kernel_rfl) (by kernel_rfl) (fun _ _ _ h => QP.put h) (Or.inl ⟨by rfl, ?_⟩) hS ?_
  rotate_left
  · intro w' hSw; (try dsimp only at hSw); go_split_ands; go_simp; (try with_reducible rfl)
  (try simp only [Act.put, List.setIfInBounds_toArray, List.set_cons_zero, List.set_cons_succ])
  refine wpAnyH_take (i := 8) (v := ?_) (by simp only [List.getElem?_toArray, List.getElem?_cons_succ, List.getElem?_cons_zero]; rfl) (by kernel_rfl) (by kernel_rfl) (by kernel_rfl) (fun _ _ _ h => QP.put h) (Or.inl ⟨by rfl, ?_⟩) hS ?_
  rotate_left
  · intro w' hSw; (try dsimp only at hSw); go_split_ands; go_simp; (try with_reducible rfl)
  (try simp only [Act.put, List.setIfInBounds_toArray, List.set_cons_zero, List.set_cons_succ])
  refine wpAnyH_take (i := 9) (v := ?_) (by simp only [List.getElem?_toArray, List.getElem?_cons_succ, List.getElem?_cons_zero]; rfl) (by kernel_rfl) (by kernel_rfl) (by kernel_rfl) (fun _ _ _ h => QP.put h) (Or.inl ⟨by rfl, ?_⟩) hS ?_
  rotate_left
  · intro w' hSw; (try dsimp only at hSw); go_split_ands; go_simp; (try with_reducible rfl)
  (try simp only [Act.put, List.setIfInBounds_toArray, List.set_cons_zero, List.set_cons_succ])
  refine wpAnyH_ready (rs := [10]) (by kernel_rfl) (by simp) ?_
  refine AllReadyH.cons (by simp only [List.getElem?_toArray, List.getElem?_cons_succ, List.getElem?_cons_zero]; rfl) (fun K hK => ?_) ?_
  · skip
    go_simp
    refine ((show Calls Try.prog 73 #[rv now A n k B m d, .int .i64 is] _ (OnePost _ (cd, 0, [], [])) from hon.out ▸ enter1_any now A n k B m d ns os is _ HC.out.ro.rds)).mono ?_
    rintro e w10 ⟨A1, n1, c1, B1, m1, d1, rfl, hro, hb⟩
    have hsz0 := hid (show Wd.heap.size ≤ w10.heap.size from hb.size)
    replace HC := hid (HC.out.step hb); replace HB := hid (below_then HB.out hb)
    clear hb
    clear hro
    go_wp2_with fail
    refine hK.out _ _ ⟨(HC.out.box).cells11.1, (HC.out.box).cells11.2.1, (HC.out.box).cells11.2.2.1, (HC.out.box).cells11.2.2.2.2.2.2.2.2.1⟩ (fun hS' => ?_)
    clear hK K hS
    have hS := hS'
    clear hS'
    (try simp only [Act.put, List.setIfInBounds_toArray, List.set_cons_zero, List.set_cons_succ])
    refine wpAnyH_take (i := 11) (v := ?_) (by simp only [List.getElem?_toArray, List.getElem?_cons_succ, List.getElem?_cons_zero]; rfl) (by kernel_rfl) (by kernel_rfl) (by kernel_rfl) (fun _ _ _ h => QP.put h) (Or.inl ⟨by rfl, ?_⟩) hS ?_
    rotate_left
    · intro w' hSw; (try dsimp only at hSw); go_split_ands; go_simp; (try with_reducible rfl)
    (try simp only [Act.put, List.setIfInBounds_toArray, List.set_cons_zero, List.set_cons_succ])
    refine wpAnyH_take (i := 12) (v := ?_) (by simp only [List.getElem?_toArray, List.getElem?_cons_succ, List.getElem?_cons_zero]; rfl) (by kernel_rfl) (by kernel_rfl) (by kernel_rfl) (fun _ _ _ h => QP.put h) (Or.inl ⟨by rfl, ?_⟩) hS ?_
    rotate_left
    · intro w' hSw; (try dsimp only at hSw); go_split_ands; go_simp; (try with_reducible rfl)
    (try simp only [Act.put, List.setIfInBounds_toArray, List.set_cons_zero, List.set_cons_succ])
    refine wpAnyH_ready (rs := [13]) (by kernel_rfl) (by simp) ?_
    refine AllReadyH.cons (by simp only [List.getElem?_toArray, List.getElem?_cons_succ, List.getElem?_cons_zero]; rfl) (fun K hK => ?_) ?_
    · skip
      go_simp
      refine (sureR_no 0 A1 n1 c1 B1 m1 d1 cd w10 HS.out).mono ?_
      rintro e Wp ⟨rfl, hb⟩
      unfold Go.Proofs.Ytfipdoofgbjbjaa.leaves
      intro tm
      refine (?_ : bodyPost Try.prog Try.f53 _ _ _ _)
      exact ⟨rfl, rfl, below_then HB.out hb⟩
    exact AllReadyH.nil
  exact AllReadyH.nil
set_option maxRecDepth 100000 in
set_option maxHeartbeats 4000000 in
theorem rleave_yes (l gc : Nat) (s : St) (g : Gr) (es : List Qe) (is what : Int) (ran : List Int) (a : Ra) (R : Option Addr) (nr kr : Nat) (w : World) (h : CA w l gc s g es is what ran a R nr kr) (hg : Good s.1 s.2.1 s.2.2) (hs : stC s (is, false) = 0) :
    Calls Try.prog 54 #[ptr gc] w fun x w' => x = .returned (.tuple #[]) ∧ (∃ a', a'.Q = a.Q ∧ a'.nq = a.nq ∧ a'.kq = a.kq ∧ CA w' l gc (stN s (is, false)) g es is what ran a' R nr kr) ∧ GrownP (CS gc a.Q R) w w' := by
  obtain ⟨A, n, k, B, m, d, D, kd, Q, nq, kq⟩ := a
  obtain ⟨now, ns, os⟩ := s
  have HC := hid h; have HB := hid (Below.refl w.heap.size w); have HG := hid hg; have HS := hid hs
  clear h hg hs
  go_enter Try.func54, Try.ntmps54
  go_upto_region 0 with fail
  have hon := hid (show oneF now ns os (is, false) = (0, stN (now, ns, os) (is, false)) from oneF_ok HG.out HS.out)
  obtain ⟨sn, hsn⟩ : ∃ x, x = stN (now, ns, os) (is, false) := ⟨_, rfl⟩
  rw [← hsn] at hon ⊢
  clear hsn
  obtain ⟨nw, nss, oss⟩ := sn
  have hlw := hid (show gc < w.heap.size from HC.out.box.lt)
  have bx := (Below.refl w.heap.size w).drew
  replace HC := hid (HC.out.step bx); replace HB := hid (below_then HB.out bx)
  clear bx
  have hszd := hid (show w.drew.heap.size = w.heap.size from rfl)
  refine wp_region_noPanic ?_
  refine wp_region_held_tail 14 (fun W' : World => W'.cell? ⟨gc, 0, none⟩ = some (.int .i64 now) ∧ W'.cell? ⟨gc, 1, none⟩ = some (.slice A n k) ∧ W'.cell? ⟨gc, 2, none⟩ = some (.slice B m d) ∧ W'.cell? ⟨gc, 8, none⟩ = some (.int .i64 is)) #[false, false, false, false, false, false, false, false, false, false, false, false, false, false, false, false, false, false] (by kernel_rfl) ⟨(HC.out.box).cells11.1, (HC.out.box).cells11.2.1, (HC.out.box).cells11.2.2.1, (HC.out.box).cells11.2.2.2.2.2.2.2.2.1⟩ (by kernel_rfl) (by kernel_rfl) (fun hS => ?_)
  generalize w.drew = Wd at *
  refine wpAnyT_take (i := 0) (v := ?_) (by kernel_rfl) (by simp only [List.getElem?_toArray, List.getElem?_cons_succ, List.getElem?_cons_zero]; rfl) (by kernel_rfl) (fun _ _ _ h => h) (Or.inl ⟨by rfl, ?_⟩) hS ?_
  rotate_left
  · intro w' hSw; (try dsimp only at hSw); go_split_ands; go_simp; (try with_reducible rfl)
  (try simp only [Act.put, List.setIfInBounds_toArray, List.set_cons_zero, List.set_cons_succ])
  refine wpAnyT_take (i := 1) (v := ?_) (by kernel_rfl) (by simp only [List.getElem?_toArray, List.getElem?_cons_succ, List.getElem?_cons_zero]; rfl) (by kernel_rfl) (fun _ _ _ h => h) (Or.inl ⟨by rfl, ?_⟩) hS ?_
  rotate_left
  · intro w' hSw; (try dsimp only at hSw); go_split_ands; go_simp; (try with_reducible rfl)
  (try simp only [Act.put, List.setIfInBounds_toArray, List.set_cons_zero, List.set_cons_succ])
  refine wpAnyT_take (i := 2) (v := ?_) (by kernel_rfl) (by simp only [List.getElem?_toArray, List.getElem?_cons_succ, List.getElem?_cons_zero]; rfl) (by kernel_rfl) (fun _ _ _ h => h) (Or.inl ⟨by rfl, ?_⟩) hS ?_
  rotate_left
  · intro w' hSw; (try dsimp only at hSw); go_split_ands; go_simp; (try with_reducible rfl)
  (try simp only [Act.put, List.setIfInBounds_toArray, List.set_cons_zero, List.set_cons_succ])
  refine wpAnyT_take (i := 3) (v := ?_) (by kernel_rfl) (by simp only [List.getElem?_toArray, List.getElem?_cons_succ, List.getElem?_cons_zero]; rfl) (by kernel_rfl) (fun _ _ _ h => h) (Or.inl ⟨by rfl, ?_⟩) hS ?_
  rotate_left
  · intro w' hSw; (try dsimp only at hSw); go_split_ands; go_simp; (try with_reducible rfl)
  (try simp only [Act.put, List.setIfInBounds_toArray, List.set_cons_zero, List.set_cons_succ])
  refine wpAnyT_take (i := 4) (v := ?_) (by kernel_rfl) (by simp only [List.getElem?_toArray, List.getElem?_cons_succ, List.getElem?_cons_zero]; rfl) (by kernel_rfl) (fun _ _ _ h => h) (Or.inl ⟨by rfl, ?_⟩) hS ?_
  rotate_left
  · intro w' hSw; (try dsimp only at hSw); go_split_ands; go_simp; (try with_reducible rfl)
  (try simp only [Act.put, List.setIfInBounds_toArray, List.set_cons_zero, List.set_cons_succ])
  refine wpAnyT_take (i := 5) (v := ?_) (by kernel_rfl) (by simp only [List.getElem?_toArray, List.getElem?_cons_succ, List.getElem?_cons_zero]; rfl) (by kernel_rfl) (fun _ _ _ h => h) (Or.inl ⟨by rfl, ?_⟩) hS ?_
  rotate_left
  · intro w' hSw; (try dsimp only at hSw); go_split_ands; go_simp; (try with_reducible rfl)
  (try simp only [Act.put, List.setIfInBounds_toArray, List.set_cons_zero, List.set_cons_succ])
  refine wpAnyT_take (i := 6) (v := ?_) (by kernel_rfl) (by simp only [List.getElem?_toArray, List.getElem?_cons_succ, List.getElem?_cons_zero]; rfl) (by kernel_rfl) (fun _ _ _ h => h) (Or.inl ⟨by rfl, ?_⟩) hS ?_
  rotate_left
  · intro w' hSw; (try dsimp only at hSw); go_split_ands; go_simp; (try with_reducible rfl)
  (try simp only [Act.put, List.setIfInBounds_toArray, List.set_cons_zero, List.set_cons_succ])
  refine wpAnyT_take (i := 7) (v := ?_) (by kernel_rfl) (by simp only [List.getElem?_toArray, List.getElem?_cons_succ, List.getElem?_cons_zero]; rfl) (by kernel_rfl) (fun _ _ _ h => h) (Or.inl ⟨by rfl, ?_⟩) hS ?_
  rotate_left
  · intro w' hSw; (try dsimp only at hSw); go_split_ands; go_simp; (try with_reducible rfl)
  (try simp only [Act.put, List.setIfInBounds_toArray, List.set_cons_zero, List.set_cons_succ])
  refine wpAnyT_take (i := 8) (v := ?_) (by kernel_rfl) (by simp only [List.getElem?_toArray, List.getElem?_cons_succ, List.getElem?_cons_zero]; rfl) (by kernel_rfl) (fun _ _ _ h => h) (Or.inl ⟨by rfl, ?_⟩) hS ?_
  rotate_left
  · intro w' hSw; (try dsimp only at hSw); go_split_ands; go_simp; (try with_reducible rfl)
  (try simp only [Act.put, List.setIfInBounds_toArray, List.set_cons_zero, List.set_cons_succ])
  refine wpAnyT_take (i := 9) (v := ?_) (by kernel_rfl) (by simp only [List.getElem?_toArray, List.getElem?_cons_succ, List.getElem?_cons_zero]; rfl) (by kernel_rfl) (fun _ _ _ h => h) (Or.inl ⟨by rfl, ?_⟩) hS ?_
  rotate_left
  · intro w' hSw; (try dsimp only at hSw); go_split_ands; go_simp; (try with_reducible rfl)
  (try simp only [Act.put, List.setIfInBounds_toArray, List.set_cons_zero, List.set_cons_succ])
  refine wpAnyT_ready [10] (by kernel_rfl) (by simp) ?_
  refine AllReadyT.cons (by simp only [List.getElem?_toArray, List.getElem?_cons_succ, List.getElem?_cons_zero]; rfl) rfl (fun K hK => ?_) ?_
  · skip
    go_simp
    refine ((show Calls Try.prog 74 #[rv now A n k B m d, .int .i64 is] _ (OnePost _ (0, nw, nss, oss)) from hon.out ▸ leave1_any now A n k B m d ns os is _ HC.out.ro.rds)).mono ?_
    rintro e w10 ⟨A1, n1, c1, B1, m1, d1, rfl, hro, hb⟩
    have hsz0 := hid (show Wd.heap.size ≤ w10.heap.size from hb.size)
    replace HC := hid (HC.out.step hb); replace HB := hid (below_then HB.out hb)
    clear hb
    have RO := hid (hro.mono (show l ≤ _ by have := HC.out.lg; have := hlw.out; have := hszd.out; omega))
    clear hro
    go_wp2_with fail
    have hS' : (fun W' : World => W'.cell? ⟨gc, 0, none⟩ = some (.int .i64 now) ∧ W'.cell? ⟨gc, 1, none⟩ = some (.slice A n k) ∧ W'.cell? ⟨gc, 2, none⟩ = some (.slice B m d) ∧ W'.cell? ⟨gc, 8, none⟩ = some (.int .i64 is)) _ := ⟨(HC.out.box).cells11.1, (HC.out.box).cells11.2.1, (HC.out.box).cells11.2.2.1, (HC.out.box).cells11.2.2.2.2.2.2.2.2.1⟩
    refine hK.out _ _ hS' ?_
    clear hK K hS
    have hS := hS'
    clear hS'
    (try simp only [Act.put, List.setIfInBounds_toArray, List.set_cons_zero, List.set_cons_succ])
    refine wpAnyT_take (i := 11) (v := ?_) (by kernel_rfl) (by simp only [List.getElem?_toArray, List.getElem?_cons_succ, List.getElem?_cons_zero]; rfl) (by kernel_rfl) (fun _ _ _ h => h) (Or.inl ⟨by rfl, ?_⟩) hS ?_
    rotate_left
    · intro w' hSw; (try dsimp only at hSw); go_split_ands; go_simp; (try with_reducible rfl)
    (try simp only [Act.put, List.setIfInBounds_toArray, List.set_cons_zero, List.set_cons_succ])
    refine wpAnyT_take (i := 12) (v := ?_) (by kernel_rfl) (by simp only [List.getElem?_toArray, List.getElem?_cons_succ, List.getElem?_cons_zero]; rfl) (by kernel_rfl) (fun _ _ _ h => h) (Or.inl ⟨by rfl, ?_⟩) hS ?_
    rotate_left
    · intro w' hSw; (try dsimp only at hSw); go_split_ands; go_simp; (try with_reducible rfl)
    (try simp only [Act.put, List.setIfInBounds_toArray, List.set_cons_zero, List.set_cons_succ])
    refine wpAnyT_ready [13] (by kernel_rfl) (by simp) ?_
    refine AllReadyT.cons (by simp only [List.getElem?_toArray, List.getElem?_cons_succ, List.getElem?_cons_zero]; rfl) rfl (fun K hK => ?_) ?_
    · skip
      go_simp
      refine (sureR_yes nw A1 n1 c1 B1 m1 d1 _).mono ?_
      rintro e w13 ⟨rfl, hb⟩
      have hsz1 := hid (show w10.heap.size ≤ w13.heap.size from hb.size)
      replace HC := hid (HC.out.step hb); replace RO := hid (RO.out.step hb); replace HB := hid (below_then HB.out hb)
      clear hb
      go_wp2_with fail
      have hS' : (fun W' : World => W'.cell? ⟨gc, 0, none⟩ = some (.int .i64 now) ∧ W'.cell? ⟨gc, 1, none⟩ = some (.slice A n k) ∧ W'.cell? ⟨gc, 2, none⟩ = some (.slice B m d) ∧ W'.cell? ⟨gc, 8, none⟩ = some (.int .i64 is)) _ := ⟨(HC.out.box).cells11.1, (HC.out.box).cells11.2.1, (HC.out.box).cells11.2.2.1, (HC.out.box).cells11.2.2.2.2.2.2.2.2.1⟩
      refine hK.out _ _ hS' ?_
      clear hK K hS
      have hS := hS'
      clear hS'
      (try simp only [Act.put, List.setIfInBounds_toArray, List.set_cons_zero, List.set_cons_succ])
      refine wpAnyT_done (by kernel_rfl) ?_
      simp only [List.drop_succ_cons, List.drop_zero]
      clear hS
      obtain ⟨y0, y1, y2, y3, y4, y5, y6, y7, y8, y9, y10, yf⟩ := HC.out.box.cells11
      go_wp2_with fail
      refine NoPanic.normal ?_
      clear y0 y1 y2 y3 y4 y5 y6 y7 y8 y9 y10 yf
      (try go_end0)
      have hgr := grown_set (grown_set (grown_set (World.grownBy.refl w13 (some gc)) 0 (.int .i64 nw)) 1 (.slice A1 n1 c1)) 2 (.slice B1 m1 d1)
      refine ⟨rfl, ⟨⟨A1, n1, c1, B1, m1, d1, D, kd, Q, nq, kq⟩, rfl, rfl, rfl, HC.out.stored hgr (((HC.out.box.setCell 0 _).setCell 1 _).setCell 2 _) RO.out HC.out.gd rfl rfl rfl⟩, ((GrownP.ofBelow (p := CS gc Q R) HB.out).trans (GrownP.ofGrown hgr (.inl rfl)))⟩
    exact AllReadyT.nil
  exact AllReadyT.nil
set_option maxRecDepth 100000 in
set_option maxHeartbeats 4000000 in
theorem rleave_no (l gc : Nat) (s : St) (g : Gr) (es : List Qe) (is what : Int) (ran : List Int) (a : Ra) (R : Option Addr) (nr kr : Nat) (w : World) (h : CA w l gc s g es is what ran a R nr kr) (hg : Good s.1 s.2.1 s.2.2) (hs : stC s (is, false) ≠ 0) :
    Calls Try.prog 54 #[ptr gc] w fun x w' => x = Go.Proofs.Ytfipdoofgbjbjaa.leaves (stC s (is, false)) ∧ Below w.heap.size w w' := by
  obtain ⟨A, n, k, B, m, d, D, kd, Q, nq, kq⟩ := a
  obtain ⟨now, ns, os⟩ := s
  have HC := hid h; have HB := hid (Below.refl w.heap.size w); have HG := hid hg; have HS := hid hs
  clear h hg hs
  go_enter Try.func54, Try.ntmps54
  go_upto_region 0 with fail
  have hon := hid (show oneF now ns os (is, false) = (stC (now, ns, os) (is, false), (0, [], [])) from oneF_err HG.out HS.out)
  obtain ⟨cd, hcd⟩ : ∃ x, x = stC (now, ns, os) (is, false) := ⟨_, rfl⟩
  rw [← hcd] at hon HS ⊢
  clear hcd
  have bx := (Below.refl w.heap.size w).drew
  replace HC := hid (HC.out.step bx); replace HB := hid (below_then HB.out bx)
  clear bx
  have hszd := hid (show w.drew.heap.size = w.heap.size from rfl)
  refine wp_region_qp ?_
  refine wp_region_held_drew (S := (fun W' : World => W'.cell? ⟨gc, 0, none⟩ = some (.int .i64 now) ∧ W'.cell? ⟨gc, 1, none⟩ = some (.slice A n k) ∧ W'.cell? ⟨gc, 2, none⟩ = some (.slice B m d) ∧ W'.cell? ⟨gc, 8, none⟩ = some (.int .i64 is))) (by kernel_rfl) ⟨(HC.out.box).cells11.1, (HC.out.box).cells11.2.1, (HC.out.box).cells11.2.2.1, (HC.out.box).cells11.2.2.2.2.2.2.2.2.1⟩ (fun hS => ?_)
  generalize w.drew = Wd at *
  refine wpAnyH_take (i := 0) (v := ?_) (by simp only [List.getElem?_toArray, List.getElem?_cons_succ, List.getElem?_cons_zero]; rfl) (by kernel_rfl) (by kernel_rfl) (by kernel_rfl) (fun _ _ _ h => QP.put h) (Or.inl ⟨by rfl, ?_⟩) hS ?_
  rotate_left
  · intro w' hSw; (try dsimp only at hSw); go_split_ands; go_simp; (try with_reducible rfl)
  (try simp only [Act.put, List.setIfInBounds_toArray, List.set_cons_zero, List.set_cons_succ])
  refine wpAnyH_take (i := 1) (v := ?_) (by simp only [List.getElem?_toArray, List.getElem?_cons_succ, List.getElem?_cons_zero]; rfl) (by kernel_rfl) (by kernel_rfl) (by kernel_rfl) (fun _ _ _ h => QP.put h) (Or.inl ⟨by rfl, ?_⟩) hS ?_
  rotate_left
  · intro w' hSw; (try dsimp only at hSw); go_split_ands; go_simp; (try with_reducible rfl)
  (try simp only [Act.put, List.setIfInBounds_toArray, List.set_cons_zero, List.set_cons_succ])
  refine wpAnyH_take (i := 2) (v := ?_) (by simp only [List.getElem?_toArray, List.getElem?_cons_succ, List.getElem?_cons_zero]; rfl) (by kernel_rfl) (by kernel_rfl) (by kernel_rfl) (fun _ _ _ h => QP.put h) (Or.inl ⟨by rfl, ?_⟩) hS ?_
  rotate_left
  · intro w' hSw; (try dsimp only at hSw); go_split_ands; go_simp; (try with_reducible rfl)
  (try simp only [Act.put, List.setIfInBounds_toArray, List.set_cons_zero, List.set_cons_succ])
  refine wpAnyH_take (i := 3) (v := ?_) (by simp only [List.getElem?_toArray, List.getElem?_cons_succ, List.getElem?_cons_zero]; rfl) (by kernel_rfl) (by kernel_rfl) (by kernel_rfl) (fun _ _ _ h => QP.put h) (Or.inl ⟨by rfl, ?_⟩) hS ?_
  rotate_left
  · intro w' hSw; (try dsimp only at hSw); go_split_ands; go_simp; (try with_reducible rfl)
  (try simp only [Act.put, List.setIfInBounds_toArray, List.set_cons_zero, List.set_cons_succ])
  refine wpAnyH_take (i := 4) (v := ?_) (by simp only [List.getElem?_toArray, List.getElem?_cons_succ, List.getElem?_cons_zero]; rfl) (by kernel_rfl) (by kernel_rfl) (by kernel_rfl) (fun _ _ _ h => QP.put h) (Or.inl ⟨by rfl, ?_⟩) hS ?_
  rotate_left
  · intro w' hSw; (try dsimp only at hSw); go_split_ands; go_simp; (try with_reducible rfl)
  (try simp only [Act.put, List.setIfInBounds_toArray, List.set_cons_zero, List.set_cons_succ])
  refine wpAnyH_take (i := 5) (v := ?_) (by simp only [List.getElem?_toArray, List.getElem?_cons_succ, List.getElem?_cons_zero]; rfl) (by kernel_rfl) (by kernel_rfl) (by kernel_rfl) (fun _ _ _ h => QP.put h) (Or.inl ⟨by rfl, ?_⟩) hS ?_
  rotate_left
  · intro w' hSw; (try dsimp only at hSw); go_split_ands; go_simp; (try with_reducible rfl)
  (try simp only [Act.put, List.setIfInBounds_toArray, List.set_cons_zero, List.set_cons_succ])
  refine wpAnyH_take (i := 6) (v := ?_) (by simp only [List.getElem?_toArray, List.getElem?_cons_succ, List.getElem?_cons_zero]; rfl) (by kernel_rfl) (by kernel_rfl) (by kernel_rfl) (fun _ _ _ h => QP.put h) (Or.inl ⟨by rfl, ?_⟩) hS ?_
  rotate_left
  · intro w' hSw; (try dsimp only at hSw); go_split_ands; go_simp; (try with_reducible rfl)
  (try simp only [Act.put, List.setIfInBounds_toArray, List.set_cons_zero, List.set_cons_succ])
  refine wpAnyH_take (i := 7) (v := ?_) (by simp only [List.getElem?_toArray, List.getElem?_cons_succ, List.getElem?_cons_zero]; rfl) (by kernel_rfl) (by kernel_rfl) (by kernel_rfl) (fun _ _ _ h => QP.put h) (Or.inl ⟨by rfl, ?_⟩) hS ?_
  rotate_left
  · intro w' hSw; (try dsimp only at hSw); go_split_ands; go_simp; (try with_reducible rfl)
  (try simp only [Act.put, List.setIfInBounds_toArray, List.set_cons_zero, List.set_cons_succ])
  refine wpAnyH_take (i := 8) (v := ?_) (by simp only [List.getElem?_toArray, List.getElem?_cons_succ, List.getElem?_cons_zero]; rfl) (by kernel_rfl) (by kernel_rfl) (by kernel_rfl) (fun _ _ _ h => QP.put h) (Or.inl ⟨by rfl, ?_⟩) hS ?_
  rotate_left
  · intro w' hSw; (try dsimp only at hSw); go_split_ands; go_simp; (try with_reducible rfl)
  (try simp only [Act.put, List.setIfInBounds_toArray, List.set_cons_zero, List.set_cons_succ])
  refine wpAnyH_take (i := 9) (v := ?_) (by simp only [List.getElem?_toArray, List.getElem?_cons_succ, List.getElem?_cons_zero]; rfl) (by kernel_rfl) (by kernel_rfl) (by kernel_rfl) (fun _ _ _ h => QP.put h) (Or.inl ⟨by rfl, ?_⟩) hS ?_
  rotate_left
  · intro w' hSw; (try dsimp only at hSw); go_split_ands; go_simp; (try with_reducible rfl)
  (try simp only [Act.put, List.setIfInBounds_toArray, List.set_cons_zero, List.set_cons_succ])
  refine wpAnyH_ready (rs := [10]) (by kernel_rfl) (by simp) ?_
  refine AllReadyH.cons (by simp only [List.getElem?_toArray, List.getElem?_cons_succ, List.getElem?_cons_zero]; rfl) (fun K hK => ?_) ?_
  · skip
    go_simp
    refine ((show Calls Try.prog 74 #[rv now A n k B m d, .int .i64 is] _ (OnePost _ (cd, 0, [], [])) from hon.out ▸ leave1_any now A n k B m d ns os is _ HC.out.ro.rds)).mono ?_
    rintro e w10 ⟨A1, n1, c1, B1, m1, d1, rfl, hro, hb⟩
    have hsz0 := hid (show Wd.heap.size ≤ w10.heap.size from hb.size)
    replace HC := hid (HC.out.step hb); replace HB := hid (below_then HB.out hb)
    clear hb
    clear hro
    go_wp2_with fail
    refine hK.out _ _ ⟨(HC.out.box).cells11.1, (HC.out.box).cells11.2.1, (HC.out.box).cells11.2.2.1, (HC.out.box).cells11.2.2.2.2.2.2.2.2.1⟩ (fun hS' => ?_)
    clear hK K hS
    have hS := hS'
    clear hS'
    (try simp only [Act.put, List.setIfInBounds_toArray, List.set_cons_zero, List.set_cons_succ])
    refine wpAnyH_take (i := 11) (v := ?_) (by simp only [List.getElem?_toArray, List.getElem?_cons_succ, List.getElem?_cons_zero]; rfl) (by kernel_rfl) (by kernel_rfl) (by kernel_rfl) (fun _ _ _ h => QP.put h) (Or.inl ⟨by rfl, ?_⟩) hS ?_
    rotate_left
    · intro w' hSw; (try dsimp only at hSw); go_split_ands; go_simp; (try with_reducible rfl)
    (try simp only [Act.put, List.setIfInBounds_toArray, List.set_cons_zero, List.set_cons_succ])
    refine wpAnyH_take (i := 12) (v := ?_) (by simp only [List.getElem?_toArray, List.getElem?_cons_succ, List.getElem?_cons_zero]; rfl) (by kernel_rfl) (by kernel_rfl) (by kernel_rfl) (fun _ _ _ h => QP.put h) (Or.inl ⟨by rfl, ?_⟩) hS ?_
    rotate_left
    · intro w' hSw; (try dsimp only at hSw); go_split_ands; go_simp; (try with_reducible rfl)
    (try simp only [Act.put, List.setIfInBounds_toArray, List.set_cons_zero, List.set_cons_succ])
    refine wpAnyH_ready (rs := [13]) (by kernel_rfl) (by simp) ?_
    refine AllReadyH.cons (by simp only [List.getElem?_toArray, List.getElem?_cons_succ, List.getElem?_cons_zero]; rfl) (fun K hK => ?_) ?_
    · skip
      go_simp
      refine (sureR_no 0 A1 n1 c1 B1 m1 d1 cd w10 HS.out).mono ?_
      rintro e Wp ⟨rfl, hb⟩
      unfold Go.Proofs.Ytfipdoofgbjbjaa.leaves
      intro tm
      refine (?_ : bodyPost Try.prog Try.f54 _ _ _ _)
      exact ⟨rfl, rfl, below_then HB.out hb⟩
    exact AllReadyH.nil
  exact AllReadyH.nil
end Go.Proofs.Ytfipdoofgbjbjaa
