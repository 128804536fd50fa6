/- package grace: Play, for readers and a grace that may be. No condition but sizes. -/
import Derived.Test.YtbibfjncjklclaaGr9
namespace Go.Proofs.Ytbibfjncjklclaa
open Go.RowKit
attribute [local go_sem] Oper.semAt_some
theorem playA_nz {L : List (Int × Int)} : ∀ {s : St} {g : Gr} {aq : List Int}, (playA s g aq L).1 ≠ 0 → (playA s g aq L).2 = ((0, [], []), zGr, []) := by
  induction L with
  | nil => intro s g aq h; exact absurd rfl h
  | cons t L ih =>
    intro s g aq h
    unfold playA at h ⊢
    split at h
    · rename_i e; rw [if_pos e]; exact ih h
    · rename_i e; rw [if_neg e]
/-- what Play hands back: the error, readers, a grace, what was asked for -/
def PlPost (w : World) (r : Int × St × Gr × List Int) (x : Ending) (w' : World) : Prop :=
  ∃ A n k B m d D kd E ne ke, x = .returned (.tuple #[rv r.2.1.1 A n k B m d, gv r.2.2.1 D r.2.2.1.nd.length kd, .slice E ne ke, .int .i64 r.1]) ∧ Rown w' w.heap.size A n k B m d r.2.1.2.1 r.2.1.2.2 ∧
    Ow blv w' w.heap.size 4 D r.2.2.1.nd.length kd r.2.2.1.nd ∧ Ow i64 w' w.heap.size 3 E ne ke r.2.2.2 ∧ Below w.heap.size w w'
def TriedB (w : World) (r : Int × St × Gr × List Int) (x : Ending) (w' : World) : Prop :=
  ∃ gp A n k B m d D kd E ne ke, x = .returned (.tuple #[ptr gp, .int .i64 r.1]) ∧ Blk w' gp 76 (bth r.2.1.1 A n k B m d r.2.2.1 D r.2.2.1.nd.length kd E ne ke) ∧ w.heap.size ≤ gp ∧ Rown w' w.heap.size A n k B m d r.2.1.2.1 r.2.1.2.2 ∧
    Ow blv w' w.heap.size 4 D r.2.2.1.nd.length kd r.2.2.1.nd ∧ Ow i64 w' w.heap.size 3 E ne ke r.2.2.2 ∧ Below w.heap.size w w'
theorem triedB {w w' : World} {s : St} {g : Gr} {L : List (Int × Int)} {x : Ending} (h : Tried w (fun _ => False) (PlayYes s g L) (PlayNo s g L) x w') : TriedB w (playA s g [] L) x w' := by
  obtain ⟨hg, h⟩ := h
  rcases h with ⟨gb, rfl, l, hl, hgb, hc, c, gd, kd, h1, h2, h3, h4, h5, h6, h7⟩ | ⟨gn, cd, rfl, ⟨hc, hp⟩, hgn, hb⟩
  · refine ⟨gb, c.A, c.n, c.k, c.B, c.m, c.d, some ⟨gd, 0, none⟩, kd, c.E, c.ne, c.ke, by rw [hc], ?_, by omega, h4.mono hl, h3.mono hl, h5.mono hl, hg.toBelow⟩
    rw [← h1]; exact h2
  · have hz := playA_nz (L := L) (s := s) (g := g) (aq := []) (by rw [hp]; exact hc)
    have e : playA s g [] L = (cd, (0, [], []), zGr, []) := by rw [← hz, ← hp]
    rw [e]
    exact ⟨gn, none, 0, 0, none, 0, 0, none, 0, none, 0, 0, rfl, hb, hgn, .none _ _, Ow.nil _ _ _, Ow.nil _ _ _, hg.toBelow⟩
theorem Ow.keptR {α : Type} {enc : α → Value} {w w' : World} {lo n c g : Nat} {e t : TypeId} {A : Option Addr} {xs : List α} {cs : Array Value} (h : Ow enc w lo e A n c xs) (hb : Blk w g t cs) (hne : t ≠ e) (hg : w.grownBy w' (some g)) : Ow enc w' lo e A n c xs :=
  h.keptG hg (fun a ha e => h.ne_blk hb hne a ha (Option.some.inj e))
theorem Rown.keptR {w w' : World} {lo n c m d g : Nat} {t : TypeId} {A B : Option Addr} {ns os : List Int} {cs : Array Value} (h : Rown w lo A n c B m d ns os) (hb : Blk w g t cs) (hne : t ≠ 3) (hg : w.grownBy w' (some g)) : Rown w' lo A n c B m d ns os :=
  ⟨h.oa.keptR hb hne hg, h.ob.keptR hb hne hg, h.apart, h.hn, h.hm⟩
set_option maxRecDepth 100000 in
set_option maxHeartbeats 4000000 in
theorem play_any (s : St) (g : Gr) (A : Option Addr) (n k : Nat) (B : Option Addr) (m d : Nat) (D : Option Addr) (kd : Nat) (T : Option Addr) (nt kt : Nat) (L : List (Int × Int)) (w : World)
    (hR : Rds w A n k B m d s.2.1 s.2.2) (hD : Sl blv false w 0 w.heap.size D g.nd.length g.nd) (hT : Sm 2 encT (0, 0) w 0 w.heap.size T nt L) (hb : Both s g) (hnt : nt ≤ 1000000) :
    Calls Try.prog 12 #[rv s.1 A n k B m d, gv g D g.nd.length kd, .slice T nt kt] w (PlPost w (playA s g [] L)) := by
  obtain ⟨r, hr⟩ : ∃ r, r = playA s g [] L := ⟨_, rfl⟩
  have HRR := hid hr
  rw [← hr]
  obtain ⟨now, ns, os⟩ := s
  have HR := hid hR; have HD := hid hD; have HT := hid hT; have HBo := hid hb; have HB := hid (Below.refl w.heap.size w)
  have hnn : n = g.nd.length := by rw [← hb.2.2]; exact hR.lenx.symm
  clear hR hD hT hb hr
  subst hnn
  have bx := below_box w (.cells #[.int .i64 now, .slice A g.nd.length k, .slice B m d] 24)
  replace HR := hid (HR.out.step bx); replace HD := hid (HD.out.step bx); replace HT := hid (HT.out.step bx); replace HB := hid (below_then HB.out bx)
  clear bx
  have PR := hid (Blk.new w 24 #[.int .i64 now, .slice A g.nd.length k, .slice B m d])
  have bx := below_box (w.alloc (.cells #[.int .i64 now, .slice A g.nd.length k, .slice B m d] 24)) (.cells #[.int .i64 g.dn, .int .i64 g.ak, .bool g.on, .slice D g.nd.length kd] 27)
  replace HR := hid (HR.out.step bx); replace HD := hid (HD.out.step bx); replace HT := hid (HT.out.step bx); replace PR := hid (PR.out.step bx); replace HB := hid (below_then HB.out bx)
  clear bx
  have PG := hid (Blk.new2 w 27 #[.int .i64 g.dn, .int .i64 g.ak, .bool g.on, .slice D g.nd.length kd] (.cells #[.int .i64 now, .slice A g.nd.length k, .slice B m d] 24))
  have bx := below_box ((w.alloc (.cells #[.int .i64 now, .slice A g.nd.length k, .slice B m d] 24)).alloc (.cells #[.int .i64 g.dn, .int .i64 g.ak, .bool g.on, .slice D g.nd.length kd] 27)) (.cells #[.slice T nt kt] 28)
  replace HR := hid (HR.out.step bx); replace HD := hid (HD.out.step bx); replace HT := hid (HT.out.step bx); replace PR := hid (PR.out.step bx); replace PG := hid (PG.out.step bx); replace HB := hid (below_then HB.out bx)
  clear bx
  have PL := hid (Blk.new3 w 28 #[.slice T nt kt] (.cells #[.int .i64 now, .slice A g.nd.length k, .slice B m d] 24) (.cells #[.int .i64 g.dn, .int .i64 g.ak, .bool g.on, .slice D g.nd.length kd] 27))
  have bx := below_box (((w.alloc (.cells #[.int .i64 now, .slice A g.nd.length k, .slice B m d] 24)).alloc (.cells #[.int .i64 g.dn, .int .i64 g.ak, .bool g.on, .slice D g.nd.length kd] 27)).alloc (.cells #[.slice T nt kt] 28)) (.cells #[.int .i64 0, .slice none 0 0, .slice none 0 0] 24)
  replace HR := hid (HR.out.step bx); replace HD := hid (HD.out.step bx); replace HT := hid (HT.out.step bx); replace PR := hid (PR.out.step bx); replace PG := hid (PG.out.step bx); replace PL := hid (PL.out.step bx); replace HB := hid (below_then HB.out bx)
  clear bx
  have ZR := hid (Blk.new4 w 24 #[.int .i64 0, .slice none 0 0, .slice none 0 0] (.cells #[.int .i64 now, .slice A g.nd.length k, .slice B m d] 24) (.cells #[.int .i64 g.dn, .int .i64 g.ak, .bool g.on, .slice D g.nd.length kd] 27) (.cells #[.slice T nt kt] 28))
  have bx := below_box ((((w.alloc (.cells #[.int .i64 now, .slice A g.nd.length k, .slice B m d] 24)).alloc (.cells #[.int .i64 g.dn, .int .i64 g.ak, .bool g.on, .slice D g.nd.length kd] 27)).alloc (.cells #[.slice T nt kt] 28)).alloc (.cells #[.int .i64 0, .slice none 0 0, .slice none 0 0] 24)) (.cells #[.int .i64 0, .int .i64 0, .bool false, .slice none 0 0] 27)
  replace HR := hid (HR.out.step bx); replace HD := hid (HD.out.step bx); replace HT := hid (HT.out.step bx); replace PR := hid (PR.out.step bx); replace PG := hid (PG.out.step bx); replace PL := hid (PL.out.step bx); replace ZR := hid (ZR.out.step bx); replace HB := hid (below_then HB.out bx)
  clear bx
  have ZG := hid (Blk.new5 w 27 #[.int .i64 0, .int .i64 0, .bool false, .slice none 0 0] (.cells #[.int .i64 now, .slice A g.nd.length k, .slice B m d] 24) (.cells #[.int .i64 g.dn, .int .i64 g.ak, .bool g.on, .slice D g.nd.length kd] 27) (.cells #[.slice T nt kt] 28) (.cells #[.int .i64 0, .slice none 0 0, .slice none 0 0] 24))
  go_enter Try.func12, Try.ntmps12
  obtain ⟨y00, y01, y02, yf0⟩ := PR.out.cells3
  go_wp2_with fail
  have hz0 := hid (show (((((w.alloc (.cells #[.int .i64 now, .slice A g.nd.length k, .slice B m d] 24)).alloc (.cells #[.int .i64 g.dn, .int .i64 g.ak, .bool g.on, .slice D g.nd.length kd] 27)).alloc (.cells #[.slice T nt kt] 28)).alloc (.cells #[.int .i64 0, .slice none 0 0, .slice none 0 0] 24)).alloc (.cells #[.int .i64 0, .int .i64 0, .bool false, .slice none 0 0] 27)).heap.size = w.heap.size + 5 by simp)
  generalize ((((w.alloc (.cells #[.int .i64 now, .slice A g.nd.length k, .slice B m d] 24)).alloc (.cells #[.int .i64 g.dn, .int .i64 g.ak, .bool g.on, .slice D g.nd.length kd] 27)).alloc (.cells #[.slice T nt kt] 28)).alloc (.cells #[.int .i64 0, .slice none 0 0, .slice none 0 0] 24)).alloc (.cells #[.int .i64 0, .int .i64 0, .bool false, .slice none 0 0] 27) = W0 at *
  have HZ0 := hid hz0
  clear y00 y01 y02 yf0 hz0
  refine (check_good now A g.nd.length k B m d ns os _ HR.out HBo.out.1).mono ?_
  rintro e w1 ⟨rfl, hb⟩
  replace HR := hid (HR.out.step hb); replace HD := hid (HD.out.step hb); replace HT := hid (HT.out.step hb); replace PR := hid (PR.out.step hb); replace PG := hid (PG.out.step hb); replace PL := hid (PL.out.step hb); replace ZR := hid (ZR.out.step hb); replace ZG := hid (ZG.out.step hb); replace HB := hid (below_then HB.out hb)
  clear hb
  obtain ⟨y00, y01, y02, yf0⟩ := PR.out.cells3
  obtain ⟨y10, y11, y12, y13, yf1⟩ := PG.out.cells4
  have d1 : ((g.nd.length : Int) != (g.nd.length : Int)) = false := by simp
  go_upto_region 6 with fail
  clear y00 y01 y02 yf0 y10 y11 y12 y13 yf1 d1
  obtain ⟨y00, y01, y02, y03, yf0⟩ := PG.out.cells4
  have hmf : ∀ (fn : Fn) (first cap : Array Value) (w : World), (Instr.makeFunc fn first cap).run Try.prog w = .ok (.func fn first cap) w := fun _ _ _ _ => rfl
  go_wp2_with fail
  clear y00 y01 y02 y03 yf0 hmf
  have hszA := hid (show w.heap.size + 5 ≤ w1.heap.size by have := HZ0.out; have := ZG.out.lt; omega)
  refine (tries_any g D g.nd.length kd 0 42 #[ptr w.heap.size, ptr (w.heap.size + 1 + 1)] (fun _ => False) (PlayYes (now, ns, os) g L) (PlayNo (now, ns, os) g L) w1 (fun _ h => h.elim) HD.out (by have := HBo.out.2.1.2.1; omega) HBo.out.2.1 (enters_of Try.func42 (by kernel_rfl) rfl) ?_ ?_ ?_).mono ?_
  ·intro wc gd gb hgd hgb hne hbw hPb hDb
   refine (play1_any wc gd gb w.heap.size (w.heap.size + 1 + 1) w1.heap.size (now, ns, os) g A g.nd.length k B m d T nt kt L g.nd.length hgd hgb hne hPb hDb (PR.out.step hbw) (PL.out.step hbw) PR.out.lt PL.out.lt (HR.out.step hbw) (HT.out.below hbw (Nat.le_refl _)) HBo.out hnt).mono ?_
   rintro x w2 ⟨hg2, hx⟩
   refine ⟨hg2.mono (fun i hi => .inr hi), hx⟩
  ·rintro l gb W p u ⟨hc, hba⟩ h1 h2
   refine ⟨hc, ?_⟩
   obtain ⟨c, gd, kd, k1, k2, k3, k4, k5, k6, k7⟩ := hba
   exact ⟨c, gd, kd, k1, k2.far (by omega) u, k3.setCell h2 u, ⟨k4.oa.setCell h2 u, k4.ob.setCell h2 u, k4.apart, k4.hn, k4.hm⟩, k5.setCell h2 u, k6, k7⟩
  ·exact fun c W W' h _ => h
  intro x w2 hx
  obtain ⟨gp, A2, n2, k2, B2, m2, d2, D2, kd2, E2, ne2, ke2, rfl, hp, hgp, hro, hdo, heo, hb2⟩ := triedB hx
  clear hx
  have P2 := hid hp; have HGPL := hid hgp; have RO2 := hid hro; have DO2 := hid hdo; have EO2 := hid heo
  rw [← HRR.out] at P2 RO2 DO2 EO2 ⊢
  clear hp hgp hro hdo heo HR HD HT PR PG PL
  replace ZR := hid (ZR.out.step hb2); replace ZG := hid (ZG.out.step hb2); replace HB := hid (below_then HB.out hb2)
  clear hb2 HBo HRR
  obtain ⟨rc, ⟨rnow, rns, ros⟩, rg, rq⟩ := r
  dsimp only at P2 RO2 DO2 EO2 ⊢
  go_upto_region 7 with fail
  have hszz := hid (show w.heap.size ≤ w1.heap.size by have := hszA.out; omega)
  have bx := (Below.refl w2.heap.size w2).drew
  replace ZR := hid (ZR.out.step bx); replace ZG := hid (ZG.out.step bx); replace P2 := hid (P2.out.step bx); replace RO2 := hid (RO2.out.step bx); replace DO2 := hid (DO2.out.step bx); replace EO2 := hid (EO2.out.step bx); replace HB := hid (below_then HB.out bx)
  clear bx
  have hszd := hid (show w2.drew.heap.size = w2.heap.size from rfl)
  refine wp_region_noPanic ?_
  refine wp_region_held_drew (S := (fun W' : World => W'.cell? ⟨gp, 0, none⟩ = some (.int .i64 rnow) ∧ W'.cell? ⟨gp, 1, none⟩ = some (.slice A2 n2 k2) ∧ W'.cell? ⟨gp, 2, none⟩ = some (.slice B2 m2 d2) ∧ W'.cell? ⟨gp, 3, none⟩ = some (.int .i64 rg.dn) ∧ W'.cell? ⟨gp, 4, none⟩ = some (.int .i64 rg.ak) ∧ W'.cell? ⟨gp, 5, none⟩ = some (.bool rg.on) ∧ W'.cell? ⟨gp, 6, none⟩ = some (.slice D2 rg.nd.length kd2) ∧ W'.cell? ⟨gp, 7, none⟩ = some (.slice E2 ne2 ke2))) (by kernel_rfl) ⟨P2.out.cells8.1, P2.out.cells8.2.1, P2.out.cells8.2.2.1, P2.out.cells8.2.2.2.1, P2.out.cells8.2.2.2.2.1, P2.out.cells8.2.2.2.2.2.1, P2.out.cells8.2.2.2.2.2.2.1, P2.out.cells8.2.2.2.2.2.2.2.1⟩ (fun hS => ?_)
  generalize w2.drew = Wd at *
  refine wpAnyH_take (i := 0) (v := ?_) (by simp only [List.getElem?_toArray, List.getElem?_cons_succ, List.getElem?_cons_zero]; rfl) (by kernel_rfl) (by kernel_rfl) (by kernel_rfl) (fun _ _ _ h => h) (Or.inl ⟨by rfl, ?_⟩) hS ?_
  rotate_left
  · intro w' hSw; (try dsimp only at hSw); go_split_ands; go_simp; (try with_reducible rfl)
  (try simp only [Act.put, List.setIfInBounds_toArray, List.set_cons_zero, List.set_cons_succ])
  refine wpAnyH_take (i := 1) (v := ?_) (by simp only [List.getElem?_toArray, List.getElem?_cons_succ, List.getElem?_cons_zero]; rfl) (by kernel_rfl) (by kernel_rfl) (by kernel_rfl) (fun _ _ _ h => h) (Or.inl ⟨by rfl, ?_⟩) hS ?_
  rotate_left
  · intro w' hSw; (try dsimp only at hSw); go_split_ands; go_simp; (try with_reducible rfl)
  (try simp only [Act.put, List.setIfInBounds_toArray, List.set_cons_zero, List.set_cons_succ])
  refine wpAnyH_take (i := 2) (v := ?_) (by simp only [List.getElem?_toArray, List.getElem?_cons_succ, List.getElem?_cons_zero]; rfl) (by kernel_rfl) (by kernel_rfl) (by kernel_rfl) (fun _ _ _ h => h) (Or.inl ⟨by rfl, ?_⟩) hS ?_
  rotate_left
  · intro w' hSw; (try dsimp only at hSw); go_split_ands; go_simp; (try with_reducible rfl)
  (try simp only [Act.put, List.setIfInBounds_toArray, List.set_cons_zero, List.set_cons_succ])
  refine wpAnyH_take (i := 3) (v := ?_) (by simp only [List.getElem?_toArray, List.getElem?_cons_succ, List.getElem?_cons_zero]; rfl) (by kernel_rfl) (by kernel_rfl) (by kernel_rfl) (fun _ _ _ h => h) (Or.inl ⟨by rfl, ?_⟩) hS ?_
  rotate_left
  · intro w' hSw; (try dsimp only at hSw); go_split_ands; go_simp; (try with_reducible rfl)
  (try simp only [Act.put, List.setIfInBounds_toArray, List.set_cons_zero, List.set_cons_succ])
  refine wpAnyH_take (i := 4) (v := ?_) (by simp only [List.getElem?_toArray, List.getElem?_cons_succ, List.getElem?_cons_zero]; rfl) (by kernel_rfl) (by kernel_rfl) (by kernel_rfl) (fun _ _ _ h => h) (Or.inl ⟨by rfl, ?_⟩) hS ?_
  rotate_left
  · intro w' hSw; (try dsimp only at hSw); go_split_ands; go_simp; (try with_reducible rfl)
  (try simp only [Act.put, List.setIfInBounds_toArray, List.set_cons_zero, List.set_cons_succ])
  refine wpAnyH_take (i := 5) (v := ?_) (by simp only [List.getElem?_toArray, List.getElem?_cons_succ, List.getElem?_cons_zero]; rfl) (by kernel_rfl) (by kernel_rfl) (by kernel_rfl) (fun _ _ _ h => h) (Or.inl ⟨by rfl, ?_⟩) hS ?_
  rotate_left
  · intro w' hSw; (try dsimp only at hSw); go_split_ands; go_simp; (try with_reducible rfl)
  (try simp only [Act.put, List.setIfInBounds_toArray, List.set_cons_zero, List.set_cons_succ])
  refine wpAnyH_take (i := 6) (v := ?_) (by simp only [List.getElem?_toArray, List.getElem?_cons_succ, List.getElem?_cons_zero]; rfl) (by kernel_rfl) (by kernel_rfl) (by kernel_rfl) (fun _ _ _ h => h) (Or.inl ⟨by rfl, ?_⟩) hS ?_
  rotate_left
  · intro w' hSw; (try dsimp only at hSw); go_split_ands; go_simp; (try with_reducible rfl)
  (try simp only [Act.put, List.setIfInBounds_toArray, List.set_cons_zero, List.set_cons_succ])
  refine wpAnyH_take (i := 7) (v := ?_) (by simp only [List.getElem?_toArray, List.getElem?_cons_succ, List.getElem?_cons_zero]; rfl) (by kernel_rfl) (by kernel_rfl) (by kernel_rfl) (fun _ _ _ h => h) (Or.inl ⟨by rfl, ?_⟩) hS ?_
  rotate_left
  · intro w' hSw; (try dsimp only at hSw); go_split_ands; go_simp; (try with_reducible rfl)
  (try simp only [Act.put, List.setIfInBounds_toArray, List.set_cons_zero, List.set_cons_succ])
  refine wpAnyH_take (i := 8) (v := ?_) (by simp only [List.getElem?_toArray, List.getElem?_cons_succ, List.getElem?_cons_zero]; rfl) (by kernel_rfl) (by kernel_rfl) (by kernel_rfl) (fun _ _ _ h => h) (Or.inl ⟨by rfl, ?_⟩) hS ?_
  rotate_left
  · intro w' hSw; (try dsimp only at hSw); go_split_ands; go_simp; (try with_reducible rfl)
  (try simp only [Act.put, List.setIfInBounds_toArray, List.set_cons_zero, List.set_cons_succ])
  refine wpAnyH_take (i := 9) (v := ?_) (by simp only [List.getElem?_toArray, List.getElem?_cons_succ, List.getElem?_cons_zero]; rfl) (by kernel_rfl) (by kernel_rfl) (by kernel_rfl) (fun _ _ _ h => h) (Or.inl ⟨by rfl, ?_⟩) hS ?_
  rotate_left
  · intro w' hSw; (try dsimp only at hSw); go_split_ands; go_simp; (try with_reducible rfl)
  (try simp only [Act.put, List.setIfInBounds_toArray, List.set_cons_zero, List.set_cons_succ])
  refine wpAnyH_take (i := 10) (v := ?_) (by simp only [List.getElem?_toArray, List.getElem?_cons_succ, List.getElem?_cons_zero]; rfl) (by kernel_rfl) (by kernel_rfl) (by kernel_rfl) (fun _ _ _ h => h) (Or.inl ⟨by rfl, ?_⟩) hS ?_
  rotate_left
  · intro w' hSw; (try dsimp only at hSw); go_split_ands; go_simp; (try with_reducible rfl)
  (try simp only [Act.put, List.setIfInBounds_toArray, List.set_cons_zero, List.set_cons_succ])
  refine wpAnyH_take (i := 11) (v := ?_) (by simp only [List.getElem?_toArray, List.getElem?_cons_succ, List.getElem?_cons_zero]; rfl) (by kernel_rfl) (by kernel_rfl) (by kernel_rfl) (fun _ _ _ h => h) (Or.inl ⟨by rfl, ?_⟩) hS ?_
  rotate_left
  · intro w' hSw; (try dsimp only at hSw); go_split_ands; go_simp; (try with_reducible rfl)
  (try simp only [Act.put, List.setIfInBounds_toArray, List.set_cons_zero, List.set_cons_succ])
  refine wpAnyH_take (i := 12) (v := ?_) (by simp only [List.getElem?_toArray, List.getElem?_cons_succ, List.getElem?_cons_zero]; rfl) (by kernel_rfl) (by kernel_rfl) (by kernel_rfl) (fun _ _ _ h => h) (Or.inl ⟨by rfl, ?_⟩) hS ?_
  rotate_left
  · intro w' hSw; (try dsimp only at hSw); go_split_ands; go_simp; (try with_reducible rfl)
  (try simp only [Act.put, List.setIfInBounds_toArray, List.set_cons_zero, List.set_cons_succ])
  refine wpAnyH_ready (rs := [13]) (by kernel_rfl) (by simp) ?_
  refine AllReadyH.cons (by simp only [List.getElem?_toArray, List.getElem?_cons_succ, List.getElem?_cons_zero]; rfl) (fun K hK => ?_) ?_
  · skip
    obtain ⟨y00, y01, y02, yf0⟩ := ZR.out.cells3
    go_simp
    clear y00 y01 y02 yf0
    refine named_store3 ZR.out ?_
    intro Ws13 hbk hgr hsz
    have hsz0 := hid hsz
    clear hsz
    replace P2 := hid (P2.out.grown hgr (by have := HGPL.out; have := hszA.out; simp; omega)); replace RO2 := hid (RO2.out.keptR ZR.out (by decide) hgr)
    replace DO2 := hid (DO2.out.keptR ZR.out (by decide) hgr); replace EO2 := hid (EO2.out.keptR ZR.out (by decide) hgr)
    replace ZG := hid (ZG.out.grown hgr (by simp)); replace HB := hid (HB.out.grown hgr HB.out.size (fun r e => by cases e; omega))
    replace ZR := hid hbk
    clear hbk hgr
    refine hK.out _ _ ⟨P2.out.cells8.1, P2.out.cells8.2.1, P2.out.cells8.2.2.1, P2.out.cells8.2.2.2.1, P2.out.cells8.2.2.2.2.1, P2.out.cells8.2.2.2.2.2.1, P2.out.cells8.2.2.2.2.2.2.1, P2.out.cells8.2.2.2.2.2.2.2.1⟩ (fun hS' => ?_)
    clear hK K hS
    have hS := hS'
    clear hS'
    (try simp only [Act.put, List.setIfInBounds_toArray, List.set_cons_zero, List.set_cons_succ])
    refine wpAnyH_ready (rs := [14]) (by kernel_rfl) (by simp) ?_
    refine AllReadyH.cons (by simp only [List.getElem?_toArray, List.getElem?_cons_succ, List.getElem?_cons_zero]; rfl) (fun K hK => ?_) ?_
    · skip
      obtain ⟨y00, y01, y02, y03, yf0⟩ := ZG.out.cells4
      go_simp
      clear y00 y01 y02 y03 yf0
      refine named_store4 ZG.out ?_
      intro Ws14 hbk hgr hsz
      have hsz1 := hid hsz
      clear hsz
      replace P2 := hid (P2.out.grown hgr (by have := HGPL.out; have := hszA.out; simp; omega)); replace RO2 := hid (RO2.out.keptR ZG.out (by decide) hgr)
      replace DO2 := hid (DO2.out.keptR ZG.out (by decide) hgr); replace EO2 := hid (EO2.out.keptR ZG.out (by decide) hgr)
      replace ZR := hid (ZR.out.grown hgr (by simp)); replace HB := hid (HB.out.grown hgr HB.out.size (fun r e => by cases e; omega))
      replace ZG := hid hbk
      clear hbk hgr
      refine hK.out _ _ ⟨P2.out.cells8.1, P2.out.cells8.2.1, P2.out.cells8.2.2.1, P2.out.cells8.2.2.2.1, P2.out.cells8.2.2.2.2.1, P2.out.cells8.2.2.2.2.2.1, P2.out.cells8.2.2.2.2.2.2.1, P2.out.cells8.2.2.2.2.2.2.2.1⟩ (fun hS' => ?_)
      clear hK K hS
      have hS := hS'
      clear hS'
      (try simp only [Act.put, List.setIfInBounds_toArray, List.set_cons_zero, List.set_cons_succ])
      refine wpAnyH_take (i := 15) (v := ?_) (by simp only [List.getElem?_toArray, List.getElem?_cons_succ, List.getElem?_cons_zero]; rfl) (by kernel_rfl) (by kernel_rfl) (by kernel_rfl) (fun _ _ _ h => h) (Or.inl ⟨by rfl, ?_⟩) hS ?_
      rotate_left
      · intro w' hSw; (try dsimp only at hSw); go_split_ands; go_simp; (try with_reducible rfl)
      (try simp only [Act.put, List.setIfInBounds_toArray, List.set_cons_zero, List.set_cons_succ])
      refine wpAnyH_take (i := 16) (v := ?_) (by simp only [List.getElem?_toArray, List.getElem?_cons_succ, List.getElem?_cons_zero]; rfl) (by kernel_rfl) (by kernel_rfl) (by kernel_rfl) (fun _ _ _ h => h) (Or.inl ⟨by rfl, ?_⟩) hS ?_
      rotate_left
      · intro w' hSw; (try dsimp only at hSw); go_split_ands; go_simp; (try with_reducible rfl)
      (try simp only [Act.put, List.setIfInBounds_toArray, List.set_cons_zero, List.set_cons_succ])
      refine wpAnyH_done (by kernel_rfl) ?_ _
      refine NoPanic.normal ?_
      clear hS
      go_wp2
      obtain ⟨y00, y01, y02, yf0⟩ := ZR.out.cells3
      obtain ⟨y10, y11, y12, y13, yf1⟩ := ZG.out.cells4
      refine bodyPost_ret (v := .tuple #[rv rnow A2 n2 k2 B2 m2 d2, gv rg D2 rg.nd.length kd2, .slice E2 ne2 ke2, .int .i64 rc]) (by simp [results, Try.results12, go_sem, y00, y01, y02, y10, y11, y12, y13]) rfl ⟨A2, n2, k2, B2, m2, d2, D2, kd2, E2, ne2, ke2, rfl, RO2.out.mono hszz.out, DO2.out.mono hszz.out, EO2.out.mono hszz.out, HB.out⟩
    exact AllReadyH.nil
  exact AllReadyH.nil
end Go.Proofs.Ytbibfjncjklclaa
