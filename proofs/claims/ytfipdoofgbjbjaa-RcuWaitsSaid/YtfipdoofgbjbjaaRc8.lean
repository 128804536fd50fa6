/- package rcu: call. No condition but sizes. -/
import Derived.Test.YtfipdoofgbjbjaaRc7
namespace Go.Proofs.Ytfipdoofgbjbjaa
open Go.RowKit
attribute [local go_sem] Oper.semAt_some
theorem CX.regd {w : World} {l gc : Nat} {s : St} {g g' : Gr} {es : List Qe} {ran : List Int} {a : Ra} {R : Option Addr} {nr kr : Nat} (h : CX w l gc s g es ran a R nr kr) {D : Option Addr} {kd : Nat} (hd : Ow blv w l 4 D g'.nd.length kd g'.nd) : CX w l gc s g' es ran ⟨a.A, a.n, a.k, a.B, a.m, a.d, D, kd, a.Q, a.nq, a.kq⟩ R nr kr :=
  ⟨h.ro, hd, h.qs, h.rn, h.qe, h.lg⟩
set_option maxRecDepth 100000 in
set_option maxHeartbeats 2000000 in
theorem rcall_full (l gc : Nat) (s : St) (g : Gr) (es : List Qe) (cp : Nat) (what : Int) (ran : List Int) (a : Ra) (R : Option Addr) (nr kr : Nat) (w : World) (h : CA w l gc s g es cp what ran a R nr kr) (hk : cp < a.nq) (hnq : a.nq ≤ 1000) (x : Qe) (hx : es[cp]?.getD zQe = x) (hg : GrOk g) (hn : ¬ gNext g ≤ 2147483645) :
    Calls Try.prog 55 #[ptr gc] w fun x' w' => x' = leaves 6 ∧ Below w.heap.size w w' := by
  have HN := hid hn
  clear hn
  obtain ⟨A, n, k, B, m, d, D, kd, Q, nq, kq⟩ := a
  obtain ⟨now, ns, os⟩ := s
  have hk : cp < nq := hk
  have hnq : nq ≤ 1000 := hnq
  have HB := hid (Below.refl w.heap.size w); have HX := hid h.cx; have PC := hid h.box; have HGK := hid hg
  obtain ⟨gQ, hQ, _, _, _, hmem⟩ := h.q_at hk
  have hQ : Q = some ⟨gQ, 0, none⟩ := hQ
  rw [hx] at hmem
  have HM := hid hmem; have HXX := hid hx; have HK := hid hk; have HLT := hid h.cx.lts; have HQE := hid (h.qe x hmem); have hlw := hid (show gc < w.heap.size from h.box.lt)
  have HRL := hid (show ∀ b, R = some b → b.block < w.heap.size from fun b hb => by obtain ⟨_, cs, q⟩ := h.rn.blk b hb; exact q.lt)
  have hki : (cp : Int) < (nq : Int) := by omega
  clear h hk hx hmem hg
  subst hQ
  obtain ⟨xl, xo, xA, xn, xc⟩ := x
  dsimp only at HQE HM HXX
  have hgQ := hid (show gQ < w.heap.size from HLT.out.1 _ rfl)
  have hcq := hid (show gc ≠ gQ from fun e => HX.out.qs.ne_blk PC.out (by decide) _ rfl e.symm)
  go_enter Try.func55, Try.ntmps55
  obtain ⟨y0, y1, y2, y3, y4, y5, y6, y7, y8, y9, y10, yf⟩ := PC.out.cells11
  go_wp2_with fail
  clear y0 y1 y2 y3 y4 y5 y6 y7 y8 y9 y10 yf
  have hga := gask_any g D kd w ((HX.out.gd.sl (d := false)).mono (Nat.zero_le _) (Nat.le_refl _)) HGK.out
  rw [show gaskF g = (6, 0, zGr) from if_neg (by have := HN.out; omega)] at hga
  refine hga.mono ?_
  rintro e w1 ⟨D1, kd1, rfl, hd1, hb⟩
  clear hga hd1
  replace HX := hid (HX.out.step hb); replace PC := hid (PC.out.step hb); replace HB := hid (below_then HB.out hb)
  clear hb
  dsimp only
  go_wp2_with fail
  refine (rneed_no 6 _).mono ?_
  rintro e v1 ⟨rfl, rfl⟩
  unfold leaves
  go_wp2_with fail
  exact ⟨rfl, rfl, below_then HB.out (below_box _ _)⟩
set_option maxRecDepth 100000 in
set_option maxHeartbeats 8000000 in
theorem rcall_yes (l gc : Nat) (s : St) (g : Gr) (es : List Qe) (cp : Nat) (what : Int) (ran : List Int) (a : Ra) (R : Option Addr) (nr kr : Nat) (w : World) (h : CA w l gc s g es cp what ran a R nr kr) (hk : cp < a.nq) (hnq : a.nq ≤ 1000) (x : Qe) (hx : es[cp]?.getD zQe = x) (hg : GrOk g) (hn : gNext g ≤ 2147483645) (o' : Int) (l' : List Cb) (ht : putF x.o x.l what (gNext g - g.dn) = (o', l', 0)) (hon : 0 ≤ o' ∧ o' ≤ 18446744073709551615) (hln : l'.length ≤ 1000) :
    Calls Try.prog 55 #[ptr gc] w fun x' w' => x' = .returned (.tuple #[]) ∧ (∃ a', a'.Q = a.Q ∧ a'.nq = a.nq ∧ a'.kq = a.kq ∧ ∃ A n c, CA w' l gc s (gAsk g) (es.set cp ⟨l', o', A, n, c⟩) cp what ran a' R nr kr) ∧ GrownP (CS gc a.Q R) w w' := by
  have HN := hid hn; have HT := hid ht; have HLN := hid hln; have HON := hid hon
  clear hn ht hln hon
  obtain ⟨A, n, k, B, m, d, D, kd, Q, nq, kq⟩ := a
  obtain ⟨now, ns, os⟩ := s
  have hk : cp < nq := hk
  have hnq : nq ≤ 1000 := hnq
  have HB := hid (Below.refl w.heap.size w); have HX := hid h.cx; have PC := hid h.box; have HGK := hid hg
  obtain ⟨gQ, hQ, _, _, _, hmem⟩ := h.q_at hk
  have hQ : Q = some ⟨gQ, 0, none⟩ := hQ
  rw [hx] at hmem
  have HM := hid hmem; have HXX := hid hx; have HK := hid hk; have HLT := hid h.cx.lts; have HQE := hid (h.qe x hmem); have hlw := hid (show gc < w.heap.size from h.box.lt)
  have HRL := hid (show ∀ b, R = some b → b.block < w.heap.size from fun b hb => by obtain ⟨_, cs, q⟩ := h.rn.blk b hb; exact q.lt)
  have hki : (cp : Int) < (nq : Int) := by omega
  clear h hk hx hmem hg
  subst hQ
  obtain ⟨xl, xo, xA, xn, xc⟩ := x
  dsimp only at HQE HM HXX
  have hgQ := hid (show gQ < w.heap.size from HLT.out.1 _ rfl)
  have hcq := hid (show gc ≠ gQ from fun e => HX.out.qs.ne_blk PC.out (by decide) _ rfl e.symm)
  dsimp only at HT
  go_enter Try.func55, Try.ntmps55
  obtain ⟨y0, y1, y2, y3, y4, y5, y6, y7, y8, y9, y10, yf⟩ := PC.out.cells11
  go_wp2_with fail
  clear y0 y1 y2 y3 y4 y5 y6 y7 y8 y9 y10 yf
  have hga := gask_any g D kd w ((HX.out.gd.sl (d := false)).mono (Nat.zero_le _) (Nat.le_refl _)) HGK.out
  rw [show gaskF g = (0, gNext g, gAsk g) from if_pos HN.out] at hga
  obtain ⟨N, hNN⟩ : ∃ N, N = gNext g := ⟨_, rfl⟩
  obtain ⟨g1, hg1⟩ : ∃ g1, g1 = gAsk g := ⟨_, rfl⟩
  have HDN := hid (show g1.dn = g.dn by rw [hg1]; rfl)
  have HG1 := hid hg1; have HNN := hid hNN
  rw [← hNN, ← hg1] at hga
  clear hNN hg1
  refine hga.mono ?_
  rintro e w1 ⟨D1, kd1, rfl, hd1, hb⟩
  have DO := hid (hd1.mono (show l ≤ w.heap.size by have := HX.out.lg; have := hlw.out; omega))
  clear hga hd1
  replace HX := hid (HX.out.step hb); replace PC := hid (PC.out.step hb); replace HB := hid (below_then HB.out hb)
  clear hb
  dsimp only
  have HZ1 := hid HB.out.size
  have bx := below_box w1 (.cells #[.int .i64 g1.dn, .int .i64 g1.ak, .bool g1.on, .slice D1 g1.nd.length kd1] 27)
  replace HX := hid (HX.out.step bx); replace PC := hid (PC.out.step bx); replace DO := hid (DO.out.step bx); replace HB := hid (below_then HB.out bx)
  clear bx
  have PG := hid (Blk.new w1 27 #[.int .i64 g1.dn, .int .i64 g1.ak, .bool g1.on, .slice D1 g1.nd.length kd1])
  go_wp2_with fail
  generalize w1.alloc (.cells #[.int .i64 g1.dn, .int .i64 g1.ak, .bool g1.on, .slice D1 g1.nd.length kd1] 27) = W1 at *
  refine (rneed_yes 0 _).mono ?_
  rintro e v1 ⟨rfl, rfl⟩
  have HZV := hid (show w1.heap.size ≤ v1.heap.size from Nat.le_of_lt PG.out.lt)
  go_upto_region 2 with fail
  skip
  rw [← HNN.out, ← HDN.out] at HT
  obtain ⟨ah, hah⟩ : ∃ x, x = N - g1.dn := ⟨_, rfl⟩
  rw [← hah] at HT
  have hN2 : N ≤ 2147483645 ∧ 0 ≤ g1.dn ∧ g1.dn ≤ 2147483645 ∧ 0 ≤ N := by
    have h1 := HN.out; have h2 := HNN.out; have h3 := HGK.out.small; have h4 := HDN.out
    have h5 : g.dn ≤ gNext g := by unfold gNext; split <;> omega
    omega
  have hw1 : IntKind.i64.wrap (N - g1.dn) = ah := by rw [IntKind.wrap_i64]; omega
  have hw2 : wrap64 (N - g1.dn) = ah := by unfold wrap64; omega
  have HAH := hid hah
  clear hah hN2
  have bx := (Below.refl v1.heap.size v1).drew
  replace HX := hid (HX.out.step bx); replace PC := hid (PC.out.step bx); replace DO := hid (DO.out.step bx); replace PG := hid (PG.out.step bx); replace HB := hid (below_then HB.out bx)
  clear bx
  have hszd := hid (show v1.drew.heap.size = v1.heap.size from rfl)
  refine wp_region_noPanic ?_
  refine wp_region_held_tail 32 (fun W' : World => W'.cell? ⟨gc, 7, none⟩ = some (.slice (some ⟨gQ, 0, none⟩) nq kq) ∧ W'.cell? ⟨gc, 8, none⟩ = some (.int .i64 cp) ∧ W'.cell? ⟨gc, 9, none⟩ = some (.int .u64 what) ∧ W'.cell? ⟨w1.heap.size, 0, none⟩ = some (.int .i64 g1.dn) ∧ W'.cell? ⟨gQ, cp * 2, none⟩ = some (.slice xA xn xc) ∧ W'.cell? ⟨gQ, cp * 2 + 1, none⟩ = some (.int .u64 xo)) #[false, false, false, false, false, false, false, false, false, false, false, false, false, false, false, false, false, false, false, false, false, false, false, false, false, false, false, false, false, false, false, false, false, false] (by kernel_rfl) ⟨PC.out.cells11.2.2.2.2.2.2.2.1, PC.out.cells11.2.2.2.2.2.2.2.2.1, PC.out.cells11.2.2.2.2.2.2.2.2.2.1, PG.out.cells4.1, (HX.out.q0 rfl HK.out HXX.out), (HX.out.q1 rfl HK.out HXX.out)⟩ (by kernel_rfl) (by kernel_rfl) (fun hS => ?_)
  generalize v1.drew = Wd at *
  refine wpAnyT_take (i := 0) (v := ?_) (by kernel_rfl) (by simp only [List.getElem?_toArray, List.getElem?_cons_succ, List.getElem?_cons_zero]; rfl) (by kernel_rfl) (fun _ _ _ h => h) (Or.inl ⟨by rfl, ?_⟩) hS ?_
  rotate_left
  · intro w' hSw; (try dsimp only at hSw); go_split_ands; go_simp; (try with_reducible rfl)
  (try simp only [Act.put, List.setIfInBounds_toArray, List.set_cons_zero, List.set_cons_succ])
  refine wpAnyT_take (i := 1) (v := ?_) (by kernel_rfl) (by simp only [List.getElem?_toArray, List.getElem?_cons_succ, List.getElem?_cons_zero]; rfl) (by kernel_rfl) (fun _ _ _ h => h) (Or.inl ⟨by rfl, ?_⟩) hS ?_
  rotate_left
  · intro w' hSw; (try dsimp only at hSw); go_split_ands; go_simp; (try with_reducible rfl)
  (try simp only [Act.put, List.setIfInBounds_toArray, List.set_cons_zero, List.set_cons_succ])
  refine wpAnyT_take (i := 2) (v := ?_) (by kernel_rfl) (by simp only [List.getElem?_toArray, List.getElem?_cons_succ, List.getElem?_cons_zero]; rfl) (by kernel_rfl) (fun _ _ _ h => h) (Or.inl ⟨by rfl, ?_⟩) hS ?_
  rotate_left
  · intro w' hSw; (try dsimp only at hSw); go_split_ands; go_simp; (try with_reducible rfl)
  (try simp only [Act.put, List.setIfInBounds_toArray, List.set_cons_zero, List.set_cons_succ])
  refine wpAnyT_take (i := 3) (v := ?_) (by kernel_rfl) (by simp only [List.getElem?_toArray, List.getElem?_cons_succ, List.getElem?_cons_zero]; rfl) (by kernel_rfl) (fun _ _ _ h => h) (Or.inl ⟨by rfl, ?_⟩) hS ?_
  rotate_left
  · intro w' hSw; (try dsimp only at hSw); go_split_ands; go_simp; (try with_reducible rfl)
  (try simp only [Act.put, List.setIfInBounds_toArray, List.set_cons_zero, List.set_cons_succ])
  refine wpAnyT_take (i := 4) (v := ?_) (by kernel_rfl) (by simp only [List.getElem?_toArray, List.getElem?_cons_succ, List.getElem?_cons_zero]; rfl) (by kernel_rfl) (fun _ _ _ h => h) (Or.inl ⟨by rfl, ?_⟩) hS ?_
  rotate_left
  · intro w' hSw; (try dsimp only at hSw); go_split_ands; go_simp; (try with_reducible rfl)
  (try simp only [Act.put, List.setIfInBounds_toArray, List.set_cons_zero, List.set_cons_succ])
  refine wpAnyT_take (i := 5) (v := ?_) (by kernel_rfl) (by simp only [List.getElem?_toArray, List.getElem?_cons_succ, List.getElem?_cons_zero]; rfl) (by kernel_rfl) (fun _ _ _ h => h) (Or.inl ⟨by rfl, ?_⟩) hS ?_
  rotate_left
  · intro w' hSw; (try dsimp only at hSw); go_split_ands; go_simp; (try with_reducible rfl)
  (try simp only [Act.put, List.setIfInBounds_toArray, List.set_cons_zero, List.set_cons_succ])
  refine wpAnyT_take (i := 6) (v := ?_) (by kernel_rfl) (by simp only [List.getElem?_toArray, List.getElem?_cons_succ, List.getElem?_cons_zero]; rfl) (by kernel_rfl) (fun _ _ _ h => h) (Or.inl ⟨by rfl, ?_⟩) hS ?_
  rotate_left
  · intro w' hSw; (try dsimp only at hSw); go_split_ands; go_simp; (try with_reducible rfl)
  (try simp only [Act.put, List.setIfInBounds_toArray, List.set_cons_zero, List.set_cons_succ])
  refine wpAnyT_take (i := 7) (v := ?_) (by kernel_rfl) (by simp only [List.getElem?_toArray, List.getElem?_cons_succ, List.getElem?_cons_zero]; rfl) (by kernel_rfl) (fun _ _ _ h => h) (Or.inl ⟨by rfl, ?_⟩) hS ?_
  rotate_left
  · intro w' hSw; (try dsimp only at hSw); go_split_ands; go_simp; (try with_reducible rfl)
  (try simp only [Act.put, List.setIfInBounds_toArray, List.set_cons_zero, List.set_cons_succ])
  refine wpAnyT_take (i := 8) (v := ?_) (by kernel_rfl) (by simp only [List.getElem?_toArray, List.getElem?_cons_succ, List.getElem?_cons_zero]; rfl) (by kernel_rfl) (fun _ _ _ h => h) (Or.inl ⟨by rfl, ?_⟩) hS ?_
  rotate_left
  · intro w' hSw; (try dsimp only at hSw); go_split_ands; go_simp; (try with_reducible rfl)
  (try simp only [Act.put, List.setIfInBounds_toArray, List.set_cons_zero, List.set_cons_succ])
  refine wpAnyT_take (i := 9) (v := ?_) (by kernel_rfl) (by simp only [List.getElem?_toArray, List.getElem?_cons_succ, List.getElem?_cons_zero]; rfl) (by kernel_rfl) (fun _ _ _ h => h) (Or.inl ⟨by rfl, ?_⟩) hS ?_
  rotate_left
  · intro w' hSw; (try dsimp only at hSw); go_split_ands; go_simp; (try with_reducible rfl)
  (try simp only [Act.put, List.setIfInBounds_toArray, List.set_cons_zero, List.set_cons_succ])
  refine wpAnyT_take (i := 10) (v := ?_) (by kernel_rfl) (by simp only [List.getElem?_toArray, List.getElem?_cons_succ, List.getElem?_cons_zero]; rfl) (by kernel_rfl) (fun _ _ _ h => h) (Or.inl ⟨by rfl, ?_⟩) hS ?_
  rotate_left
  · intro w' hSw; (try dsimp only at hSw); go_split_ands; go_simp; (try with_reducible rfl)
  (try simp only [Act.put, List.setIfInBounds_toArray, List.set_cons_zero, List.set_cons_succ])
  refine wpAnyT_take (i := 11) (v := ?_) (by kernel_rfl) (by simp only [List.getElem?_toArray, List.getElem?_cons_succ, List.getElem?_cons_zero]; rfl) (by kernel_rfl) (fun _ _ _ h => h) (Or.inl ⟨by rfl, ?_⟩) hS ?_
  rotate_left
  · intro w' hSw; (try dsimp only at hSw); go_split_ands; go_simp; (try with_reducible rfl)
  (try simp only [Act.put, List.setIfInBounds_toArray, List.set_cons_zero, List.set_cons_succ])
  refine wpAnyT_take (i := 12) (v := ?_) (by kernel_rfl) (by simp only [List.getElem?_toArray, List.getElem?_cons_succ, List.getElem?_cons_zero]; rfl) (by kernel_rfl) (fun _ _ _ h => h) (Or.inl ⟨by rfl, ?_⟩) hS ?_
  rotate_left
  · intro w' hSw; (try dsimp only at hSw); go_split_ands; go_simp; (try with_reducible rfl)
  (try simp only [Act.put, List.setIfInBounds_toArray, List.set_cons_zero, List.set_cons_succ])
  refine wpAnyT_take (i := 13) (v := ?_) (by kernel_rfl) (by simp only [List.getElem?_toArray, List.getElem?_cons_succ, List.getElem?_cons_zero]; rfl) (by kernel_rfl) (fun _ _ _ h => h) (Or.inl ⟨by rfl, ?_⟩) hS ?_
  rotate_left
  · intro w' hSw; (try dsimp only at hSw); go_split_ands; go_simp; (try with_reducible rfl)
  (try simp only [Act.put, List.setIfInBounds_toArray, List.set_cons_zero, List.set_cons_succ])
  refine wpAnyT_take (i := 14) (v := ?_) (by kernel_rfl) (by simp only [List.getElem?_toArray, List.getElem?_cons_succ, List.getElem?_cons_zero]; rfl) (by kernel_rfl) (fun _ _ _ h => h) (Or.inl ⟨by rfl, ?_⟩) hS ?_
  rotate_left
  · intro w' hSw; (try dsimp only at hSw); go_split_ands; go_simp; (try with_reducible rfl)
  (try simp only [Act.put, List.setIfInBounds_toArray, List.set_cons_zero, List.set_cons_succ])
  refine wpAnyT_take (i := 15) (v := ?_) (by kernel_rfl) (by simp only [List.getElem?_toArray, List.getElem?_cons_succ, List.getElem?_cons_zero]; rfl) (by kernel_rfl) (fun _ _ _ h => h) (Or.inl ⟨by rfl, ?_⟩) hS ?_
  rotate_left
  · intro w' hSw; (try dsimp only at hSw); go_split_ands; go_simp; (try with_reducible rfl)
  (try simp only [Act.put, List.setIfInBounds_toArray, List.set_cons_zero, List.set_cons_succ])
  refine wpAnyT_take (i := 16) (v := ?_) (by kernel_rfl) (by simp only [List.getElem?_toArray, List.getElem?_cons_succ, List.getElem?_cons_zero]; rfl) (by kernel_rfl) (fun _ _ _ h => h) (Or.inl ⟨by rfl, ?_⟩) hS ?_
  rotate_left
  · intro w' hSw; (try dsimp only at hSw); go_split_ands; go_simp; (try with_reducible rfl)
  (try simp only [Act.put, List.setIfInBounds_toArray, List.set_cons_zero, List.set_cons_succ])
  refine wpAnyT_take (i := 17) (v := ?_) (by kernel_rfl) (by simp only [List.getElem?_toArray, List.getElem?_cons_succ, List.getElem?_cons_zero]; rfl) (by kernel_rfl) (fun _ _ _ h => h) (Or.inl ⟨by rfl, ?_⟩) hS ?_
  rotate_left
  · intro w' hSw; (try dsimp only at hSw); go_split_ands; go_simp; (try with_reducible rfl)
  (try simp only [Act.put, List.setIfInBounds_toArray, List.set_cons_zero, List.set_cons_succ])
  refine wpAnyT_take (i := 18) (v := ?_) (by kernel_rfl) (by simp only [List.getElem?_toArray, List.getElem?_cons_succ, List.getElem?_cons_zero]; rfl) (by kernel_rfl) (fun _ _ _ h => h) (Or.inl ⟨by rfl, ?_⟩) hS ?_
  rotate_left
  · intro w' hSw; (try dsimp only at hSw); go_split_ands; go_simp; (try with_reducible rfl)
  (try simp only [Act.put, List.setIfInBounds_toArray, List.set_cons_zero, List.set_cons_succ])
  refine wpAnyT_take (i := 19) (v := ?_) (by kernel_rfl) (by simp only [List.getElem?_toArray, List.getElem?_cons_succ, List.getElem?_cons_zero]; rfl) (by kernel_rfl) (fun _ _ _ h => h) (Or.inl ⟨by rfl, ?_⟩) hS ?_
  rotate_left
  · intro w' hSw; (try dsimp only at hSw); go_split_ands; go_simp; (try with_reducible rfl)
  (try simp only [Act.put, List.setIfInBounds_toArray, List.set_cons_zero, List.set_cons_succ])
  refine wpAnyT_take (i := 20) (v := ?_) (by kernel_rfl) (by simp only [List.getElem?_toArray, List.getElem?_cons_succ, List.getElem?_cons_zero]; rfl) (by kernel_rfl) (fun _ _ _ h => h) (Or.inl ⟨by rfl, ?_⟩) hS ?_
  rotate_left
  · intro w' hSw; (try dsimp only at hSw); go_split_ands; go_simp; (try with_reducible rfl)
  (try simp only [Act.put, List.setIfInBounds_toArray, List.set_cons_zero, List.set_cons_succ])
  refine wpAnyT_take (i := 21) (v := ?_) (by kernel_rfl) (by simp only [List.getElem?_toArray, List.getElem?_cons_succ, List.getElem?_cons_zero]; rfl) (by kernel_rfl) (fun _ _ _ h => h) (Or.inl ⟨by rfl, ?_⟩) hS ?_
  rotate_left
  · intro w' hSw; (try dsimp only at hSw); go_split_ands; go_simp; (try with_reducible rfl)
  (try simp only [Act.put, List.setIfInBounds_toArray, List.set_cons_zero, List.set_cons_succ])
  refine wpAnyT_take (i := 22) (v := ?_) (by kernel_rfl) (by simp only [List.getElem?_toArray, List.getElem?_cons_succ, List.getElem?_cons_zero]; rfl) (by kernel_rfl) (fun _ _ _ h => h) (Or.inl ⟨by rfl, ?_⟩) hS ?_
  rotate_left
  · intro w' hSw; (try dsimp only at hSw); go_split_ands; go_simp; (try with_reducible rfl)
  (try simp only [Act.put, List.setIfInBounds_toArray, List.set_cons_zero, List.set_cons_succ])
  refine wpAnyT_take (i := 23) (v := ?_) (by kernel_rfl) (by simp only [List.getElem?_toArray, List.getElem?_cons_succ, List.getElem?_cons_zero]; rfl) (by kernel_rfl) (fun _ _ _ h => h) (Or.inl ⟨by rfl, ?_⟩) hS ?_
  rotate_left
  · intro w' hSw; (try dsimp only at hSw); go_split_ands; go_simp; (try with_reducible rfl)
  (try simp only [Act.put, List.setIfInBounds_toArray, List.set_cons_zero, List.set_cons_succ])
  refine wpAnyT_take (i := 24) (v := ?_) (by kernel_rfl) (by simp only [List.getElem?_toArray, List.getElem?_cons_succ, List.getElem?_cons_zero]; rfl) (by kernel_rfl) (fun _ _ _ h => h) (Or.inl ⟨by rfl, ?_⟩) hS ?_
  rotate_left
  · intro w' hSw; (try dsimp only at hSw); go_split_ands; go_simp; (try with_reducible rfl)
  (try simp only [Act.put, List.setIfInBounds_toArray, List.set_cons_zero, List.set_cons_succ])
  refine wpAnyT_take (i := 25) (v := ?_) (by kernel_rfl) (by simp only [List.getElem?_toArray, List.getElem?_cons_succ, List.getElem?_cons_zero]; rfl) (by kernel_rfl) (fun _ _ _ h => h) (Or.inl ⟨by rfl, ?_⟩) hS ?_
  rotate_left
  · intro w' hSw; (try dsimp only at hSw); go_split_ands; go_simp; (try with_reducible rfl)
  (try simp only [Act.put, List.setIfInBounds_toArray, List.set_cons_zero, List.set_cons_succ])
  refine wpAnyT_take (i := 26) (v := ?_) (by kernel_rfl) (by simp only [List.getElem?_toArray, List.getElem?_cons_succ, List.getElem?_cons_zero]; rfl) (by kernel_rfl) (fun _ _ _ h => h) (Or.inl ⟨by rfl, ?_⟩) hS ?_
  rotate_left
  · intro w' hSw; (try dsimp only at hSw); go_split_ands; go_simp; (try with_reducible rfl)
  (try simp only [Act.put, List.setIfInBounds_toArray, List.set_cons_zero, List.set_cons_succ])
  refine wpAnyT_take (i := 27) (v := ?_) (by kernel_rfl) (by simp only [List.getElem?_toArray, List.getElem?_cons_succ, List.getElem?_cons_zero]; rfl) (by kernel_rfl) (fun _ _ _ h => h) (Or.inl ⟨by rfl, ?_⟩) hS ?_
  rotate_left
  · intro w' hSw; (try dsimp only at hSw); go_split_ands; go_simp; (try with_reducible rfl)
  (try simp only [Act.put, List.setIfInBounds_toArray, List.set_cons_zero, List.set_cons_succ])
  refine wpAnyT_ready [28] (by kernel_rfl) (by simp) ?_
  refine AllReadyT.cons (by simp only [List.getElem?_toArray, List.getElem?_cons_succ, List.getElem?_cons_zero]; rfl) rfl (fun K hK => ?_) ?_
  · skip
    go_simp
    refine ((show Calls Try.prog 76 #[qv xA xn xc xo, .int .u64 what, .int .i64 ah] _ (QPost _ (o', l', 0)) from HT.out ▸ qput_any xA xn xc xo xl what ah _ (HX.out.qsm HM.out) (by have := HQE.out.2.2.1; dsimp only at this; omega) HQE.out.2.2.2.1.1 HQE.out.2.1)).mono ?_
    rintro e w28 ⟨A11, n11, c11, rfl, hqo, hb, hnc⟩
    have hsz0 := hid (show Wd.heap.size ≤ w28.heap.size from hb.size)
    replace HX := hid (HX.out.step hb); replace PC := hid (PC.out.step hb); replace DO := hid (DO.out.step hb); replace PG := hid (PG.out.step hb); replace HB := hid (below_then HB.out hb)
    clear hb
    have HQN := hid (show QeO w28 l (CS gc (some ⟨gQ, 0, none⟩) R) ⟨l', o', A11, n11, c11⟩ from QeO.fresh hqo (by have := HX.out.lg; have := hlw.out; have := HZ1.out; have := HZV.out; have := hszd.out; omega) hnc (by have h7 := hqo.sm.len; have := HLN.out; dsimp only at h7 ⊢; omega) HON.out (by have := hlw.out; have := HZ1.out; have := HZV.out; have := hszd.out; omega) (fun b hb => by cases hb; have := hgQ.out; have := HZ1.out; have := HZV.out; have := hszd.out; dsimp only; omega) (fun b hb => by have := HRL.out b hb; have := HZ1.out; have := HZV.out; have := hszd.out; omega))
    clear hqo hnc
    go_wp2_with fail
    have hS' : (fun W' : World => W'.cell? ⟨gc, 7, none⟩ = some (.slice (some ⟨gQ, 0, none⟩) nq kq) ∧ W'.cell? ⟨gc, 8, none⟩ = some (.int .i64 cp) ∧ W'.cell? ⟨gc, 9, none⟩ = some (.int .u64 what) ∧ W'.cell? ⟨w1.heap.size, 0, none⟩ = some (.int .i64 g1.dn) ∧ W'.cell? ⟨gQ, cp * 2, none⟩ = some (.slice xA xn xc) ∧ W'.cell? ⟨gQ, cp * 2 + 1, none⟩ = some (.int .u64 xo)) _ := ⟨PC.out.cells11.2.2.2.2.2.2.2.1, PC.out.cells11.2.2.2.2.2.2.2.2.1, PC.out.cells11.2.2.2.2.2.2.2.2.2.1, PG.out.cells4.1, (HX.out.q0 rfl HK.out HXX.out), (HX.out.q1 rfl HK.out HXX.out)⟩
    refine hK.out _ _ hS' ?_
    clear hK K hS
    have hS := hS'
    clear hS'
    (try simp only [Act.put, List.setIfInBounds_toArray, List.set_cons_zero, List.set_cons_succ])
    refine wpAnyT_take (i := 29) (v := ?_) (by kernel_rfl) (by simp only [List.getElem?_toArray, List.getElem?_cons_succ, List.getElem?_cons_zero]; rfl) (by kernel_rfl) (fun _ _ _ h => h) (Or.inl ⟨by rfl, ?_⟩) hS ?_
    rotate_left
    · intro w' hSw; (try dsimp only at hSw); go_split_ands; go_simp; (try with_reducible rfl)
    (try simp only [Act.put, List.setIfInBounds_toArray, List.set_cons_zero, List.set_cons_succ])
    refine wpAnyT_take (i := 30) (v := ?_) (by kernel_rfl) (by simp only [List.getElem?_toArray, List.getElem?_cons_succ, List.getElem?_cons_zero]; rfl) (by kernel_rfl) (fun _ _ _ h => h) (Or.inl ⟨by rfl, ?_⟩) hS ?_
    rotate_left
    · intro w' hSw; (try dsimp only at hSw); go_split_ands; go_simp; (try with_reducible rfl)
    (try simp only [Act.put, List.setIfInBounds_toArray, List.set_cons_zero, List.set_cons_succ])
    refine wpAnyT_ready [31] (by kernel_rfl) (by simp) ?_
    refine AllReadyT.cons (by simp only [List.getElem?_toArray, List.getElem?_cons_succ, List.getElem?_cons_zero]; rfl) rfl (fun K hK => ?_) ?_
    · skip
      go_simp
      refine (sureQ_yes A11 n11 c11 o' _).mono ?_
      rintro e w31 ⟨rfl, hb⟩
      have hsz1 := hid (show w28.heap.size ≤ w31.heap.size from hb.size)
      replace HX := hid (HX.out.step hb); replace PC := hid (PC.out.step hb); replace DO := hid (DO.out.step hb); replace PG := hid (PG.out.step hb); replace HQN := hid (HQN.out.step hb); replace HB := hid (below_then HB.out hb)
      clear hb
      go_wp2_with fail
      have hS' : (fun W' : World => W'.cell? ⟨gc, 7, none⟩ = some (.slice (some ⟨gQ, 0, none⟩) nq kq) ∧ W'.cell? ⟨gc, 8, none⟩ = some (.int .i64 cp) ∧ W'.cell? ⟨gc, 9, none⟩ = some (.int .u64 what) ∧ W'.cell? ⟨w1.heap.size, 0, none⟩ = some (.int .i64 g1.dn) ∧ W'.cell? ⟨gQ, cp * 2, none⟩ = some (.slice xA xn xc) ∧ W'.cell? ⟨gQ, cp * 2 + 1, none⟩ = some (.int .u64 xo)) _ := ⟨PC.out.cells11.2.2.2.2.2.2.2.1, PC.out.cells11.2.2.2.2.2.2.2.2.1, PC.out.cells11.2.2.2.2.2.2.2.2.2.1, PG.out.cells4.1, (HX.out.q0 rfl HK.out HXX.out), (HX.out.q1 rfl HK.out HXX.out)⟩
      refine hK.out _ _ hS' ?_
      clear hK K hS
      have hS := hS'
      clear hS'
      (try simp only [Act.put, List.setIfInBounds_toArray, List.set_cons_zero, List.set_cons_succ])
      refine wpAnyT_done (by kernel_rfl) ?_
      simp only [List.drop_succ_cons, List.drop_zero]
      clear hS
      have HG := hid (GrownP.ofBelow (p := CS gc (some ⟨gQ, 0, none⟩) R) HB.out)
      have HGZ := hid (show w.heap.size ≤ w1.heap.size from HZ1.out)
      clear HB
      obtain ⟨g2, hg2, q0, q1, qf, _⟩ := HX.out.q_at HK.out
      cases hg2
      go_wp2_with fail
      refine NoPanic.normal ?_
      clear q0 q1 qf
      have hgr := grown_set (grown_set (World.grownBy.refl w31 (some gQ)) (cp * 2) (.slice A11 n11 c11)) (cp * 2 + 1) (.int .u64 o')
      replace DO := hid (DO.out.keptG hgr (fun b hb e => by obtain ⟨_, cs, hbb⟩ := HX.out.qs.blk _ rfl; exact DO.out.ne_blk hbb (by decide) b hb (Option.some.inj e)))
      replace HX := hid (show CX ((w31.setCell ⟨gQ, cp * 2, none⟩ (.slice A11 n11 c11)).setCell ⟨gQ, cp * 2 + 1, none⟩ (.int .u64 o')) _ _ _ _ _ _ _ _ _ _ from HX.out.put rfl HK.out ⟨l', o', A11, n11, c11⟩ HQN.out)
      replace PC := hid (PC.out.grown hgr (by have := hcq.out; simpa using this))
      replace PG := hid (PG.out.grown hgr (by have := hgQ.out; have := HGZ.out; simp; omega))
      replace HG := hid (HG.out.thenG hgr (fun r e => by cases e; exact .inr (.inr (.inl ⟨_, rfl, rfl⟩))))
      clear hgr HQN
      generalize (w31.setCell ⟨gQ, cp * 2, none⟩ (.slice A11 n11 c11)).setCell ⟨gQ, cp * 2 + 1, none⟩ (.int .u64 o') = W2 at *
      obtain ⟨y0, y1, y2, y3, y4, y5, y6, y7, y8, y9, y10, yf⟩ := PC.out.cells11
      obtain ⟨y00, y01, y02, y03, yf0⟩ := PG.out.cells4
      go_wp2_with fail
      clear y00 y01 y02 y03 yf0 y0 y1 y2 y3 y4 y5 y6 y7 y8 y9 y10 yf
      (try go_end0)
      have hgr := (grown_set (grown_set (grown_set (grown_set (World.grownBy.refl W2 (some gc)) 3 (.int .i64 g1.dn)) 4 (.int .i64 g1.ak)) 5 (.bool g1.on)) 6 (.slice D1 g1.nd.length kd1))
      refine ⟨rfl, ⟨⟨A, n, k, B, m, d, D1, kd1, some ⟨gQ, 0, none⟩, nq, kq⟩, rfl, rfl, rfl, A11, n11, c11, ?_⟩, HG.out.thenG hgr (fun r e => by cases e; exact .inr (.inl rfl))⟩
      rw [← HG1.out]
      exact ((HX.out.regd DO.out).boxed PC.out hgr).ca ((((PC.out.setCell 3 (.int .i64 g1.dn)).setCell 4 (.int .i64 g1.ak)).setCell 5 (.bool g1.on)).setCell 6 (.slice D1 g1.nd.length kd1))
    exact AllReadyT.nil
  exact AllReadyT.nil
set_option maxRecDepth 100000 in
set_option maxHeartbeats 8000000 in
theorem rcall_err (l gc : Nat) (s : St) (g : Gr) (es : List Qe) (cp : Nat) (what : Int) (ran : List Int) (a : Ra) (R : Option Addr) (nr kr : Nat) (w : World) (h : CA w l gc s g es cp what ran a R nr kr) (hk : cp < a.nq) (hnq : a.nq ≤ 1000) (x : Qe) (hx : es[cp]?.getD zQe = x) (hg : GrOk g) (hn : gNext g ≤ 2147483645) (cd : Int) (ht : putF x.o x.l what (gNext g - g.dn) = (0, [], cd)) (hcd : cd ≠ 0) :
    Calls Try.prog 55 #[ptr gc] w fun x' w' => x' = leaves cd ∧ Below w.heap.size w w' := by
  have HN := hid hn; have HT := hid ht; have HCD := hid hcd
  clear hn ht hcd
  obtain ⟨A, n, k, B, m, d, D, kd, Q, nq, kq⟩ := a
  obtain ⟨now, ns, os⟩ := s
  have hk : cp < nq := hk
  have hnq : nq ≤ 1000 := hnq
  have HB := hid (Below.refl w.heap.size w); have HX := hid h.cx; have PC := hid h.box; have HGK := hid hg
  obtain ⟨gQ, hQ, _, _, _, hmem⟩ := h.q_at hk
  have hQ : Q = some ⟨gQ, 0, none⟩ := hQ
  rw [hx] at hmem
  have HM := hid hmem; have HXX := hid hx; have HK := hid hk; have HLT := hid h.cx.lts; have HQE := hid (h.qe x hmem); have hlw := hid (show gc < w.heap.size from h.box.lt)
  have HRL := hid (show ∀ b, R = some b → b.block < w.heap.size from fun b hb => by obtain ⟨_, cs, q⟩ := h.rn.blk b hb; exact q.lt)
  have hki : (cp : Int) < (nq : Int) := by omega
  clear h hk hx hmem hg
  subst hQ
  obtain ⟨xl, xo, xA, xn, xc⟩ := x
  dsimp only at HQE HM HXX
  have hgQ := hid (show gQ < w.heap.size from HLT.out.1 _ rfl)
  have hcq := hid (show gc ≠ gQ from fun e => HX.out.qs.ne_blk PC.out (by decide) _ rfl e.symm)
  dsimp only at HT
  go_enter Try.func55, Try.ntmps55
  obtain ⟨y0, y1, y2, y3, y4, y5, y6, y7, y8, y9, y10, yf⟩ := PC.out.cells11
  go_wp2_with fail
  clear y0 y1 y2 y3 y4 y5 y6 y7 y8 y9 y10 yf
  have hga := gask_any g D kd w ((HX.out.gd.sl (d := false)).mono (Nat.zero_le _) (Nat.le_refl _)) HGK.out
  rw [show gaskF g = (0, gNext g, gAsk g) from if_pos HN.out] at hga
  obtain ⟨N, hNN⟩ : ∃ N, N = gNext g := ⟨_, rfl⟩
  obtain ⟨g1, hg1⟩ : ∃ g1, g1 = gAsk g := ⟨_, rfl⟩
  have HDN := hid (show g1.dn = g.dn by rw [hg1]; rfl)
  have HG1 := hid hg1; have HNN := hid hNN
  rw [← hNN, ← hg1] at hga
  clear hNN hg1
  refine hga.mono ?_
  rintro e w1 ⟨D1, kd1, rfl, hd1, hb⟩
  have DO := hid (hd1.mono (show l ≤ w.heap.size by have := HX.out.lg; have := hlw.out; omega))
  clear hga hd1
  replace HX := hid (HX.out.step hb); replace PC := hid (PC.out.step hb); replace HB := hid (below_then HB.out hb)
  clear hb
  dsimp only
  have HZ1 := hid HB.out.size
  have bx := below_box w1 (.cells #[.int .i64 g1.dn, .int .i64 g1.ak, .bool g1.on, .slice D1 g1.nd.length kd1] 27)
  replace HX := hid (HX.out.step bx); replace PC := hid (PC.out.step bx); replace DO := hid (DO.out.step bx); replace HB := hid (below_then HB.out bx)
  clear bx
  have PG := hid (Blk.new w1 27 #[.int .i64 g1.dn, .int .i64 g1.ak, .bool g1.on, .slice D1 g1.nd.length kd1])
  go_wp2_with fail
  generalize w1.alloc (.cells #[.int .i64 g1.dn, .int .i64 g1.ak, .bool g1.on, .slice D1 g1.nd.length kd1] 27) = W1 at *
  refine (rneed_yes 0 _).mono ?_
  rintro e v1 ⟨rfl, rfl⟩
  have HZV := hid (show w1.heap.size ≤ v1.heap.size from Nat.le_of_lt PG.out.lt)
  go_upto_region 2 with fail
  skip
  rw [← HNN.out, ← HDN.out] at HT
  obtain ⟨ah, hah⟩ : ∃ x, x = N - g1.dn := ⟨_, rfl⟩
  rw [← hah] at HT
  have hN2 : N ≤ 2147483645 ∧ 0 ≤ g1.dn ∧ g1.dn ≤ 2147483645 ∧ 0 ≤ N := by
    have h1 := HN.out; have h2 := HNN.out; have h3 := HGK.out.small; have h4 := HDN.out
    have h5 : g.dn ≤ gNext g := by unfold gNext; split <;> omega
    omega
  have hw1 : IntKind.i64.wrap (N - g1.dn) = ah := by rw [IntKind.wrap_i64]; omega
  have hw2 : wrap64 (N - g1.dn) = ah := by unfold wrap64; omega
  clear hah hN2
  have bx := (Below.refl v1.heap.size v1).drew
  replace HX := hid (HX.out.step bx); replace PC := hid (PC.out.step bx); replace DO := hid (DO.out.step bx); replace PG := hid (PG.out.step bx); replace HB := hid (below_then HB.out bx)
  clear bx
  have hszd := hid (show v1.drew.heap.size = v1.heap.size from rfl)
  refine wp_region_qp ?_
  refine wp_region_held_drew (S := (fun W' : World => W'.cell? ⟨gc, 7, none⟩ = some (.slice (some ⟨gQ, 0, none⟩) nq kq) ∧ W'.cell? ⟨gc, 8, none⟩ = some (.int .i64 cp) ∧ W'.cell? ⟨gc, 9, none⟩ = some (.int .u64 what) ∧ W'.cell? ⟨w1.heap.size, 0, none⟩ = some (.int .i64 g1.dn) ∧ W'.cell? ⟨gQ, cp * 2, none⟩ = some (.slice xA xn xc) ∧ W'.cell? ⟨gQ, cp * 2 + 1, none⟩ = some (.int .u64 xo))) (by kernel_rfl) ⟨PC.out.cells11.2.2.2.2.2.2.2.1, PC.out.cells11.2.2.2.2.2.2.2.2.1, PC.out.cells11.2.2.2.2.2.2.2.2.2.1, PG.out.cells4.1, (HX.out.q0 rfl HK.out HXX.out), (HX.out.q1 rfl HK.out HXX.out)⟩ (fun hS => ?_)
  generalize v1.drew = Wd at *
  refine wpAnyH_take (i := 0) (v := ?_) (by simp only [List.getElem?_toArray, List.getElem?_cons_succ, List.getElem?_cons_zero]; rfl) (by kernel_rfl) (by kernel_rfl) (by kernel_rfl) (fun _ _ _ h => QP.put h) (Or.inl ⟨by rfl, ?_⟩) hS ?_
  rotate_left
  · intro w' hSw; (try dsimp only at hSw); go_split_ands; go_simp; (try with_reducible rfl)
  (try simp only [Act.put, List.setIfInBounds_toArray, List.set_cons_zero, List.set_cons_succ])
  refine wpAnyH_take (i := 1) (v := ?_) (by simp only [List.getElem?_toArray, List.getElem?_cons_succ, List.getElem?_cons_zero]; rfl) (by kernel_rfl) (by kernel_rfl) (by kernel_rfl) (fun _ _ _ h => QP.put h) (Or.inl ⟨by rfl, ?_⟩) hS ?_
  rotate_left
  · intro w' hSw; (try dsimp only at hSw); go_split_ands; go_simp; (try with_reducible rfl)
  (try simp only [Act.put, List.setIfInBounds_toArray, List.set_cons_zero, List.set_cons_succ])
  refine wpAnyH_take (i := 2) (v := ?_) (by simp only [List.getElem?_toArray, List.getElem?_cons_succ, List.getElem?_cons_zero]; rfl) (by kernel_rfl) (by kernel_rfl) (by kernel_rfl) (fun _ _ _ h => QP.put h) (Or.inl ⟨by rfl, ?_⟩) hS ?_
  rotate_left
  · intro w' hSw; (try dsimp only at hSw); go_split_ands; go_simp; (try with_reducible rfl)
  (try simp only [Act.put, List.setIfInBounds_toArray, List.set_cons_zero, List.set_cons_succ])
  refine wpAnyH_take (i := 3) (v := ?_) (by simp only [List.getElem?_toArray, List.getElem?_cons_succ, List.getElem?_cons_zero]; rfl) (by kernel_rfl) (by kernel_rfl) (by kernel_rfl) (fun _ _ _ h => QP.put h) (Or.inl ⟨by rfl, ?_⟩) hS ?_
  rotate_left
  · intro w' hSw; (try dsimp only at hSw); go_split_ands; go_simp; (try with_reducible rfl)
  (try simp only [Act.put, List.setIfInBounds_toArray, List.set_cons_zero, List.set_cons_succ])
  refine wpAnyH_take (i := 4) (v := ?_) (by simp only [List.getElem?_toArray, List.getElem?_cons_succ, List.getElem?_cons_zero]; rfl) (by kernel_rfl) (by kernel_rfl) (by kernel_rfl) (fun _ _ _ h => QP.put h) (Or.inl ⟨by rfl, ?_⟩) hS ?_
  rotate_left
  · intro w' hSw; (try dsimp only at hSw); go_split_ands; go_simp; (try with_reducible rfl)
  (try simp only [Act.put, List.setIfInBounds_toArray, List.set_cons_zero, List.set_cons_succ])
  refine wpAnyH_take (i := 5) (v := ?_) (by simp only [List.getElem?_toArray, List.getElem?_cons_succ, List.getElem?_cons_zero]; rfl) (by kernel_rfl) (by kernel_rfl) (by kernel_rfl) (fun _ _ _ h => QP.put h) (Or.inl ⟨by rfl, ?_⟩) hS ?_
  rotate_left
  · intro w' hSw; (try dsimp only at hSw); go_split_ands; go_simp; (try with_reducible rfl)
  (try simp only [Act.put, List.setIfInBounds_toArray, List.set_cons_zero, List.set_cons_succ])
  refine wpAnyH_take (i := 6) (v := ?_) (by simp only [List.getElem?_toArray, List.getElem?_cons_succ, List.getElem?_cons_zero]; rfl) (by kernel_rfl) (by kernel_rfl) (by kernel_rfl) (fun _ _ _ h => QP.put h) (Or.inl ⟨by rfl, ?_⟩) hS ?_
  rotate_left
  · intro w' hSw; (try dsimp only at hSw); go_split_ands; go_simp; (try with_reducible rfl)
  (try simp only [Act.put, List.setIfInBounds_toArray, List.set_cons_zero, List.set_cons_succ])
  refine wpAnyH_take (i := 7) (v := ?_) (by simp only [List.getElem?_toArray, List.getElem?_cons_succ, List.getElem?_cons_zero]; rfl) (by kernel_rfl) (by kernel_rfl) (by kernel_rfl) (fun _ _ _ h => QP.put h) (Or.inl ⟨by rfl, ?_⟩) hS ?_
  rotate_left
  · intro w' hSw; (try dsimp only at hSw); go_split_ands; go_simp; (try with_reducible rfl)
  (try simp only [Act.put, List.setIfInBounds_toArray, List.set_cons_zero, List.set_cons_succ])
  refine wpAnyH_take (i := 8) (v := ?_) (by simp only [List.getElem?_toArray, List.getElem?_cons_succ, List.getElem?_cons_zero]; rfl) (by kernel_rfl) (by kernel_rfl) (by kernel_rfl) (fun _ _ _ h => QP.put h) (Or.inl ⟨by rfl, ?_⟩) hS ?_
  rotate_left
  · intro w' hSw; (try dsimp only at hSw); go_split_ands; go_simp; (try with_reducible rfl)
  (try simp only [Act.put, List.setIfInBounds_toArray, List.set_cons_zero, List.set_cons_succ])
  refine wpAnyH_take (i := 9) (v := ?_) (by simp only [List.getElem?_toArray, List.getElem?_cons_succ, List.getElem?_cons_zero]; rfl) (by kernel_rfl) (by kernel_rfl) (by kernel_rfl) (fun _ _ _ h => QP.put h) (Or.inl ⟨by rfl, ?_⟩) hS ?_
  rotate_left
  · intro w' hSw; (try dsimp only at hSw); go_split_ands; go_simp; (try with_reducible rfl)
  (try simp only [Act.put, List.setIfInBounds_toArray, List.set_cons_zero, List.set_cons_succ])
  refine wpAnyH_take (i := 10) (v := ?_) (by simp only [List.getElem?_toArray, List.getElem?_cons_succ, List.getElem?_cons_zero]; rfl) (by kernel_rfl) (by kernel_rfl) (by kernel_rfl) (fun _ _ _ h => QP.put h) (Or.inl ⟨by rfl, ?_⟩) hS ?_
  rotate_left
  · intro w' hSw; (try dsimp only at hSw); go_split_ands; go_simp; (try with_reducible rfl)
  (try simp only [Act.put, List.setIfInBounds_toArray, List.set_cons_zero, List.set_cons_succ])
  refine wpAnyH_take (i := 11) (v := ?_) (by simp only [List.getElem?_toArray, List.getElem?_cons_succ, List.getElem?_cons_zero]; rfl) (by kernel_rfl) (by kernel_rfl) (by kernel_rfl) (fun _ _ _ h => QP.put h) (Or.inl ⟨by rfl, ?_⟩) hS ?_
  rotate_left
  · intro w' hSw; (try dsimp only at hSw); go_split_ands; go_simp; (try with_reducible rfl)
  (try simp only [Act.put, List.setIfInBounds_toArray, List.set_cons_zero, List.set_cons_succ])
  refine wpAnyH_take (i := 12) (v := ?_) (by simp only [List.getElem?_toArray, List.getElem?_cons_succ, List.getElem?_cons_zero]; rfl) (by kernel_rfl) (by kernel_rfl) (by kernel_rfl) (fun _ _ _ h => QP.put h) (Or.inl ⟨by rfl, ?_⟩) hS ?_
  rotate_left
  · intro w' hSw; (try dsimp only at hSw); go_split_ands; go_simp; (try with_reducible rfl)
  (try simp only [Act.put, List.setIfInBounds_toArray, List.set_cons_zero, List.set_cons_succ])
  refine wpAnyH_take (i := 13) (v := ?_) (by simp only [List.getElem?_toArray, List.getElem?_cons_succ, List.getElem?_cons_zero]; rfl) (by kernel_rfl) (by kernel_rfl) (by kernel_rfl) (fun _ _ _ h => QP.put h) (Or.inl ⟨by rfl, ?_⟩) hS ?_
  rotate_left
  · intro w' hSw; (try dsimp only at hSw); go_split_ands; go_simp; (try with_reducible rfl)
  (try simp only [Act.put, List.setIfInBounds_toArray, List.set_cons_zero, List.set_cons_succ])
  refine wpAnyH_take (i := 14) (v := ?_) (by simp only [List.getElem?_toArray, List.getElem?_cons_succ, List.getElem?_cons_zero]; rfl) (by kernel_rfl) (by kernel_rfl) (by kernel_rfl) (fun _ _ _ h => QP.put h) (Or.inl ⟨by rfl, ?_⟩) hS ?_
  rotate_left
  · intro w' hSw; (try dsimp only at hSw); go_split_ands; go_simp; (try with_reducible rfl)
  (try simp only [Act.put, List.setIfInBounds_toArray, List.set_cons_zero, List.set_cons_succ])
  refine wpAnyH_take (i := 15) (v := ?_) (by simp only [List.getElem?_toArray, List.getElem?_cons_succ, List.getElem?_cons_zero]; rfl) (by kernel_rfl) (by kernel_rfl) (by kernel_rfl) (fun _ _ _ h => QP.put h) (Or.inl ⟨by rfl, ?_⟩) hS ?_
  rotate_left
  · intro w' hSw; (try dsimp only at hSw); go_split_ands; go_simp; (try with_reducible rfl)
  (try simp only [Act.put, List.setIfInBounds_toArray, List.set_cons_zero, List.set_cons_succ])
  refine wpAnyH_take (i := 16) (v := ?_) (by simp only [List.getElem?_toArray, List.getElem?_cons_succ, List.getElem?_cons_zero]; rfl) (by kernel_rfl) (by kernel_rfl) (by kernel_rfl) (fun _ _ _ h => QP.put h) (Or.inl ⟨by rfl, ?_⟩) hS ?_
  rotate_left
  · intro w' hSw; (try dsimp only at hSw); go_split_ands; go_simp; (try with_reducible rfl)
  (try simp only [Act.put, List.setIfInBounds_toArray, List.set_cons_zero, List.set_cons_succ])
  refine wpAnyH_take (i := 17) (v := ?_) (by simp only [List.getElem?_toArray, List.getElem?_cons_succ, List.getElem?_cons_zero]; rfl) (by kernel_rfl) (by kernel_rfl) (by kernel_rfl) (fun _ _ _ h => QP.put h) (Or.inl ⟨by rfl, ?_⟩) hS ?_
  rotate_left
  · intro w' hSw; (try dsimp only at hSw); go_split_ands; go_simp; (try with_reducible rfl)
  (try simp only [Act.put, List.setIfInBounds_toArray, List.set_cons_zero, List.set_cons_succ])
  refine wpAnyH_take (i := 18) (v := ?_) (by simp only [List.getElem?_toArray, List.getElem?_cons_succ, List.getElem?_cons_zero]; rfl) (by kernel_rfl) (by kernel_rfl) (by kernel_rfl) (fun _ _ _ h => QP.put h) (Or.inl ⟨by rfl, ?_⟩) hS ?_
  rotate_left
  · intro w' hSw; (try dsimp only at hSw); go_split_ands; go_simp; (try with_reducible rfl)
  (try simp only [Act.put, List.setIfInBounds_toArray, List.set_cons_zero, List.set_cons_succ])
  refine wpAnyH_take (i := 19) (v := ?_) (by simp only [List.getElem?_toArray, List.getElem?_cons_succ, List.getElem?_cons_zero]; rfl) (by kernel_rfl) (by kernel_rfl) (by kernel_rfl) (fun _ _ _ h => QP.put h) (Or.inl ⟨by rfl, ?_⟩) hS ?_
  rotate_left
  · intro w' hSw; (try dsimp only at hSw); go_split_ands; go_simp; (try with_reducible rfl)
  (try simp only [Act.put, List.setIfInBounds_toArray, List.set_cons_zero, List.set_cons_succ])
  refine wpAnyH_take (i := 20) (v := ?_) (by simp only [List.getElem?_toArray, List.getElem?_cons_succ, List.getElem?_cons_zero]; rfl) (by kernel_rfl) (by kernel_rfl) (by kernel_rfl) (fun _ _ _ h => QP.put h) (Or.inl ⟨by rfl, ?_⟩) hS ?_
  rotate_left
  · intro w' hSw; (try dsimp only at hSw); go_split_ands; go_simp; (try with_reducible rfl)
  (try simp only [Act.put, List.setIfInBounds_toArray, List.set_cons_zero, List.set_cons_succ])
  refine wpAnyH_take (i := 21) (v := ?_) (by simp only [List.getElem?_toArray, List.getElem?_cons_succ, List.getElem?_cons_zero]; rfl) (by kernel_rfl) (by kernel_rfl) (by kernel_rfl) (fun _ _ _ h => QP.put h) (Or.inl ⟨by rfl, ?_⟩) hS ?_
  rotate_left
  · intro w' hSw; (try dsimp only at hSw); go_split_ands; go_simp; (try with_reducible rfl)
  (try simp only [Act.put, List.setIfInBounds_toArray, List.set_cons_zero, List.set_cons_succ])
  refine wpAnyH_take (i := 22) (v := ?_) (by simp only [List.getElem?_toArray, List.getElem?_cons_succ, List.getElem?_cons_zero]; rfl) (by kernel_rfl) (by kernel_rfl) (by kernel_rfl) (fun _ _ _ h => QP.put h) (Or.inl ⟨by rfl, ?_⟩) hS ?_
  rotate_left
  · intro w' hSw; (try dsimp only at hSw); go_split_ands; go_simp; (try with_reducible rfl)
  (try simp only [Act.put, List.setIfInBounds_toArray, List.set_cons_zero, List.set_cons_succ])
  refine wpAnyH_take (i := 23) (v := ?_) (by simp only [List.getElem?_toArray, List.getElem?_cons_succ, List.getElem?_cons_zero]; rfl) (by kernel_rfl) (by kernel_rfl) (by kernel_rfl) (fun _ _ _ h => QP.put h) (Or.inl ⟨by rfl, ?_⟩) hS ?_
  rotate_left
  · intro w' hSw; (try dsimp only at hSw); go_split_ands; go_simp; (try with_reducible rfl)
  (try simp only [Act.put, List.setIfInBounds_toArray, List.set_cons_zero, List.set_cons_succ])
  refine wpAnyH_take (i := 24) (v := ?_) (by simp only [List.getElem?_toArray, List.getElem?_cons_succ, List.getElem?_cons_zero]; rfl) (by kernel_rfl) (by kernel_rfl) (by kernel_rfl) (fun _ _ _ h => QP.put h) (Or.inl ⟨by rfl, ?_⟩) hS ?_
  rotate_left
  · intro w' hSw; (try dsimp only at hSw); go_split_ands; go_simp; (try with_reducible rfl)
  (try simp only [Act.put, List.setIfInBounds_toArray, List.set_cons_zero, List.set_cons_succ])
  refine wpAnyH_take (i := 25) (v := ?_) (by simp only [List.getElem?_toArray, List.getElem?_cons_succ, List.getElem?_cons_zero]; rfl) (by kernel_rfl) (by kernel_rfl) (by kernel_rfl) (fun _ _ _ h => QP.put h) (Or.inl ⟨by rfl, ?_⟩) hS ?_
  rotate_left
  · intro w' hSw; (try dsimp only at hSw); go_split_ands; go_simp; (try with_reducible rfl)
  (try simp only [Act.put, List.setIfInBounds_toArray, List.set_cons_zero, List.set_cons_succ])
  refine wpAnyH_take (i := 26) (v := ?_) (by simp only [List.getElem?_toArray, List.getElem?_cons_succ, List.getElem?_cons_zero]; rfl) (by kernel_rfl) (by kernel_rfl) (by kernel_rfl) (fun _ _ _ h => QP.put h) (Or.inl ⟨by rfl, ?_⟩) hS ?_
  rotate_left
  · intro w' hSw; (try dsimp only at hSw); go_split_ands; go_simp; (try with_reducible rfl)
  (try simp only [Act.put, List.setIfInBounds_toArray, List.set_cons_zero, List.set_cons_succ])
  refine wpAnyH_take (i := 27) (v := ?_) (by simp only [List.getElem?_toArray, List.getElem?_cons_succ, List.getElem?_cons_zero]; rfl) (by kernel_rfl) (by kernel_rfl) (by kernel_rfl) (fun _ _ _ h => QP.put h) (Or.inl ⟨by rfl, ?_⟩) hS ?_
  rotate_left
  · intro w' hSw; (try dsimp only at hSw); go_split_ands; go_simp; (try with_reducible rfl)
  (try simp only [Act.put, List.setIfInBounds_toArray, List.set_cons_zero, List.set_cons_succ])
  refine wpAnyH_ready (rs := [28]) (by kernel_rfl) (by simp) ?_
  refine AllReadyH.cons (by simp only [List.getElem?_toArray, List.getElem?_cons_succ, List.getElem?_cons_zero]; rfl) (fun K hK => ?_) ?_
  · skip
    go_simp
    refine ((show Calls Try.prog 76 #[qv xA xn xc xo, .int .u64 what, .int .i64 ah] _ (QPost _ (0, [], cd)) from HT.out ▸ qput_any xA xn xc xo xl what ah _ (HX.out.qsm HM.out) (by have := HQE.out.2.2.1; dsimp only at this; omega) HQE.out.2.2.2.1.1 HQE.out.2.1)).mono ?_
    rintro e w28 ⟨A11, n11, c11, rfl, hqo, hb, hnc⟩
    have hsz0 := hid (show Wd.heap.size ≤ w28.heap.size from hb.size)
    replace HX := hid (HX.out.step hb); replace PC := hid (PC.out.step hb); replace DO := hid (DO.out.step hb); replace PG := hid (PG.out.step hb); replace HB := hid (below_then HB.out hb)
    clear hb
    clear hqo hnc
    go_wp2_with fail
    refine hK.out _ _ ⟨PC.out.cells11.2.2.2.2.2.2.2.1, PC.out.cells11.2.2.2.2.2.2.2.2.1, PC.out.cells11.2.2.2.2.2.2.2.2.2.1, PG.out.cells4.1, (HX.out.q0 rfl HK.out HXX.out), (HX.out.q1 rfl HK.out HXX.out)⟩ (fun hS' => ?_)
    clear hK K hS
    have hS := hS'
    clear hS'
    (try simp only [Act.put, List.setIfInBounds_toArray, List.set_cons_zero, List.set_cons_succ])
    refine wpAnyH_take (i := 29) (v := ?_) (by simp only [List.getElem?_toArray, List.getElem?_cons_succ, List.getElem?_cons_zero]; rfl) (by kernel_rfl) (by kernel_rfl) (by kernel_rfl) (fun _ _ _ h => QP.put h) (Or.inl ⟨by rfl, ?_⟩) hS ?_
    rotate_left
    · intro w' hSw; (try dsimp only at hSw); go_split_ands; go_simp; (try with_reducible rfl)
    (try simp only [Act.put, List.setIfInBounds_toArray, List.set_cons_zero, List.set_cons_succ])
    refine wpAnyH_take (i := 30) (v := ?_) (by simp only [List.getElem?_toArray, List.getElem?_cons_succ, List.getElem?_cons_zero]; rfl) (by kernel_rfl) (by kernel_rfl) (by kernel_rfl) (fun _ _ _ h => QP.put h) (Or.inl ⟨by rfl, ?_⟩) hS ?_
    rotate_left
    · intro w' hSw; (try dsimp only at hSw); go_split_ands; go_simp; (try with_reducible rfl)
    (try simp only [Act.put, List.setIfInBounds_toArray, List.set_cons_zero, List.set_cons_succ])
    refine wpAnyH_ready (rs := [31]) (by kernel_rfl) (by simp) ?_
    refine AllReadyH.cons (by simp only [List.getElem?_toArray, List.getElem?_cons_succ, List.getElem?_cons_zero]; rfl) (fun K hK => ?_) ?_
    · skip
      go_simp
      refine (sureQ_no A11 n11 c11 0 cd w28 HCD.out).mono ?_
      rintro e Wp ⟨rfl, hb⟩
      unfold leaves
      intro tm
      have hfin : ({ tmps := tm, defers := [] } : Act).defers = [] ∧ (leaves cd = leaves cd ∧ Below w.heap.size w Wp) := ⟨rfl, rfl, below_then HB.out hb⟩
      exact hfin
    exact AllReadyH.nil
  exact AllReadyH.nil
end Go.Proofs.Ytfipdoofgbjbjaa
