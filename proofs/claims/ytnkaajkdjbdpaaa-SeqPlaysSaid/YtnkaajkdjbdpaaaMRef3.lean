/- afterglowref02: Step. -/
import Derived.Test.YtnkaajkdjbdpaaaMRef2
import Derived.Test.YtnkaajkdjbdpaaaMPl
namespace Go.Proofs.Ytnkaajkdjbdpaaa
open Go.RowKit
def RSPost (W : World) (A : Option Addr) (n : Nat) (B : Option Addr) (r : MSt × (Int × Bool)) (e : Ending) (W' : World) : Prop :=
  ∃ A' c' B' d', e = .returned (.tuple #[mv A' n c' B' n d' r.1.2.2, gv r.2.1 r.2.2]) ∧ Mem W' A' n c' B' n d' r.1.1 r.1.2.1 ∧ Below W.heap.size W W' ∧ ∀ g, g < W.heap.size → FarM n A B g → FarM n A' B' g
theorem b4 (w : World) (o1 o2 o3 o4 : Obj) : Below w.heap.size w ((((w.alloc o1).alloc o2).alloc o3).alloc o4) :=
  below_then (below_then (below_then (below_box w o1) (below_box _ o2)) (below_box _ o3)) (below_box _ o4)
theorem decT {p : Prop} [Decidable p] (h : p) : decide p = true := decide_eq_true h
theorem decF {p : Prop} [Decidable p] (h : ¬ p) : decide p = false := decide_eq_false h
set_option maxHeartbeats 8000000 in
theorem rstep_bad (A : Option Addr) (n c : Nat) (B : Option Addr) (m d : Nat) (f : Bool) (ws : List Int) (ls : List Bool) (kind at_ old new : Int) (w : World) (h : Mem w A n c B m d ws ls) (hnm : m = n) (hg : goodAt (ws, ls, f) at_ = false) :
    Calls Try.prog 69 #[mv A n c B m d f, av kind at_ old new] w (RSPost w A n B (stepM (ws, ls, f) (kind, at_, old, new))) := by
  subst hnm
  have HR := hid (h.step (b4 w (.cells (mcs A m c B m d f) 44) (.cells (acs kind at_ old new) 116) (.cells (mcs none 0 0 none 0 0 false) 44) (.cells #[.int .u64 0, .bool false] 112)))
  have PR := hid ((((Blk.new w 44 (mcs A m c B m d f)).step (below_box _ (.cells (acs kind at_ old new) 116))).step (below_box _ (.cells (mcs none 0 0 none 0 0 false) 44))).step (below_box _ (.cells #[.int .u64 0, .bool false] 112)))
  have PX := hid (((Blk.new2 w 116 (acs kind at_ old new) (.cells (mcs A m c B m d f) 44)).step (below_box _ (.cells (mcs none 0 0 none 0 0 false) 44))).step (below_box _ (.cells #[.int .u64 0, .bool false] 112)))
  have hn := h.hn
  have hlx := hid h.lenx; have hly := hid h.leny
  obtain ⟨k0, k1, k2, kf⟩ := PR.out.cells3
  obtain ⟨x0, x1, x2, x3, xf⟩ := PX.out.cells4
  have E := hid (show stepM (ws, ls, f) (kind, at_, old, new) = ((ws, ls, true), (0, false)) by unfold stepM; rw [if_pos hg])
  by_cases ha1 : at_ < 0
  · have d1 := decT ha1
    clear hg k2 x0 x2 x3 kf xf HR hlx hly
    go_enter Try.func69, Try.ntmps69
    go_upto_region 3 with fail
    obtain ⟨s0, s1, s2, sf⟩ := (PR.out.setCell 2 (.bool true)).cells3
    clear k0 k1
    go_wp2
    obtain ⟨q0, q1, q2, qf⟩ := ((Blk.new3 w 44 (mcs A m c B m d true) (.cells (mcs A m c B m d true) 44) (.cells (acs kind at_ old new) 116)).step (below_box _ (.cells #[.int .u64 0, .bool false] 112))).cells3
    obtain ⟨t0, t1, tf⟩ := (Blk.new4 w 112 #[.int .u64 0, .bool false] (.cells (mcs A m c B m d true) 44) (.cells (acs kind at_ old new) 116) (.cells (mcs A m c B m d true) 44)).cells2
    refine bodyPost_ret (v := .tuple #[mv A m c B m d true, gv 0 false]) (by simp [results, Try.results69, go_sem, q0, q1, q2, t0, t1]) rfl ?_
    rw [E.out]
    exact ⟨A, c, B, d, rfl, h.step (b4 ..), b4 .., fun _ _ hh => hh⟩
  obtain ⟨k, rfl⟩ := Int.eq_ofNat_of_zero_le (by omega : 0 ≤ at_)
  have d1 := decF ha1
  by_cases hk : k < m
  · obtain ⟨b', off', rfl, _, hbb', hc'⟩ := HR.out.hy.row (by omega)
    have g1 := hc' k hk
    have hv : ls[k]?.getD false = false := by
      rw [Bool.eq_false_iff]; intro hh
      have := goodAt_iff.2 ⟨k, rfl, (by rw [hlx.out]; exact hk : k < (ws, ls, f).1.length), hh⟩
      rw [hg] at this; cases this
    rw [hv] at g1
    have hki : (k : Int) < (m : Int) := by omega
    have d2 := decF (show ¬ (m : Int) ≤ (k : Int) by omega)
    have d3 := decF (show ¬ (k : Int) ≥ (m : Int) by omega)
    clear hg k2 x0 x2 x3 kf xf HR hlx hly hc' hv
    go_enter Try.func69, Try.ntmps69
    go_upto_region 3 with fail
    obtain ⟨s0, s1, s2, sf⟩ := (PR.out.setCell 2 (.bool true)).cells3
    clear k0 k1
    go_wp2
    obtain ⟨q0, q1, q2, qf⟩ := ((Blk.new3 w 44 (mcs A m c (some ⟨b', off', none⟩) m d true) (.cells (mcs A m c (some ⟨b', off', none⟩) m d true) 44) (.cells (acs kind (k : Int) old new) 116)).step (below_box _ (.cells #[.int .u64 0, .bool false] 112))).cells3
    obtain ⟨t0, t1, tf⟩ := (Blk.new4 w 112 #[.int .u64 0, .bool false] (.cells (mcs A m c (some ⟨b', off', none⟩) m d true) 44) (.cells (acs kind (k : Int) old new) 116) (.cells (mcs A m c (some ⟨b', off', none⟩) m d true) 44)).cells2
    refine bodyPost_ret (v := .tuple #[mv A m c (some ⟨b', off', none⟩) m d true, gv 0 false]) (by simp [results, Try.results69, go_sem, q0, q1, q2, t0, t1]) rfl ?_
    rw [E.out]
    exact ⟨A, c, _, d, rfl, h.step (b4 ..), b4 .., fun _ _ hh => hh⟩
  · have d2 := decT (show (m : Int) ≤ (k : Int) by omega)
    have d3 := decT (show (k : Int) ≥ (m : Int) by omega)
    clear hg k2 x0 x2 x3 kf xf HR hlx hly
    go_enter Try.func69, Try.ntmps69
    go_upto_region 3 with fail
    obtain ⟨s0, s1, s2, sf⟩ := (PR.out.setCell 2 (.bool true)).cells3
    clear k0 k1
    go_wp2
    obtain ⟨q0, q1, q2, qf⟩ := ((Blk.new3 w 44 (mcs A m c B m d true) (.cells (mcs A m c B m d true) 44) (.cells (acs kind (k : Int) old new) 116)).step (below_box _ (.cells #[.int .u64 0, .bool false] 112))).cells3
    obtain ⟨t0, t1, tf⟩ := (Blk.new4 w 112 #[.int .u64 0, .bool false] (.cells (mcs A m c B m d true) 44) (.cells (acs kind (k : Int) old new) 116) (.cells (mcs A m c B m d true) 44)).cells2
    refine bodyPost_ret (v := .tuple #[mv A m c B m d true, gv 0 false]) (by simp [results, Try.results69, go_sem, q0, q1, q2, t0, t1]) rfl ?_
    rw [E.out]
    exact ⟨A, c, B, d, rfl, h.step (b4 ..), b4 .., fun _ _ hh => hh⟩
set_option maxHeartbeats 8000000 in
theorem rstep_good (A : Option Addr) (n c : Nat) (B : Option Addr) (m d : Nat) (f : Bool) (ws : List Int) (ls : List Bool) (kind at_ old new : Int) (w : World) (h : Mem w A n c B m d ws ls) (hnm : m = n) (hg : goodAt (ws, ls, f) at_ = true) :
    Calls Try.prog 69 #[mv A n c B m d f, av kind at_ old new] w (RSPost w A n B (stepM (ws, ls, f) (kind, at_, old, new))) := by
  subst hnm
  have HR := hid (h.step (b4 w (.cells (mcs A m c B m d f) 44) (.cells (acs kind at_ old new) 116) (.cells (mcs none 0 0 none 0 0 false) 44) (.cells #[.int .u64 0, .bool false] 112)))
  have PR := hid ((((Blk.new w 44 (mcs A m c B m d f)).step (below_box _ (.cells (acs kind at_ old new) 116))).step (below_box _ (.cells (mcs none 0 0 none 0 0 false) 44))).step (below_box _ (.cells #[.int .u64 0, .bool false] 112)))
  have PX := hid (((Blk.new2 w 116 (acs kind at_ old new) (.cells (mcs A m c B m d f) 44)).step (below_box _ (.cells (mcs none 0 0 none 0 0 false) 44))).step (below_box _ (.cells #[.int .u64 0, .bool false] 112)))
  have hn := h.hn
  have hlx := hid h.lenx; have hly := hid h.leny
  obtain ⟨k0, k1, k2, kf⟩ := PR.out.cells3
  obtain ⟨x0, x1, x2, x3, xf⟩ := PX.out.cells4
  obtain ⟨k, rfl, hk, hv⟩ := goodAt_iff.1 hg
  replace hk : k < m := by have := hlx.out; dsimp only at hk; omega
  obtain ⟨b, off, rfl, _, hbb, hc⟩ := HR.out.hx.row (by omega)
  obtain ⟨b', off', rfl, _, hbb', hc'⟩ := HR.out.hy.row (by omega)
  have g0 := hc k hk
  have g1 := hc' k hk
  rw [show ls[k]?.getD false = true from hv] at g1
  obtain ⟨xk, hxk⟩ : ∃ z, z = ws[k]?.getD 0 := ⟨_, rfl⟩
  rw [← hxk] at g0
  have HXK := hid hxk
  have HLS := hid (show ls.set k true = ls by rw [show true = ls[k]?.getD false from hv.symm]; exact set_same (by rw [hly.out]; exact hk))
  clear hxk hc hc' hv hbb hbb' kf xf
  have hki : (k : Int) < (m : Int) := by omega
  have d1 := decF (show ¬ (k : Int) < 0 by omega)
  have d2 := decF (show ¬ (m : Int) ≤ (k : Int) by omega)
  have d3 := decF (show ¬ (k : Int) ≥ (m : Int) by omega)
  by_cases hk1 : kind = 1
  · subst hk1
    have E := hid (show stepM (ws, ls, f) (1, (k : Int), old, new) = ((ws, ls, f), (xk, true)) by unfold stepM; rw [if_neg (by rw [hg]; simp), if_pos rfl]; dsimp only; rw [Int.toNat_natCast, ← HXK.out])
    clear hg HR hlx hly x2 x3
    go_enter Try.func69, Try.ntmps69
    go_wp2
    obtain ⟨q0, q1, q2, qf⟩ := ((Blk.new3 w 44 (mcs (some ⟨b, off, none⟩) m c (some ⟨b', off', none⟩) m d f) (.cells (mcs (some ⟨b, off, none⟩) m c (some ⟨b', off', none⟩) m d f) 44) (.cells (acs 1 (k : Int) old new) 116)).step (below_box _ (.cells #[.int .u64 xk, .bool true] 112))).cells3
    obtain ⟨t0, t1, tf⟩ := (Blk.new4 w 112 #[.int .u64 xk, .bool true] (.cells (mcs (some ⟨b, off, none⟩) m c (some ⟨b', off', none⟩) m d f) 44) (.cells (acs 1 (k : Int) old new) 116) (.cells (mcs (some ⟨b, off, none⟩) m c (some ⟨b', off', none⟩) m d f) 44)).cells2
    refine bodyPost_ret (v := .tuple #[mv (some ⟨b, off, none⟩) m c (some ⟨b', off', none⟩) m d f, gv xk true]) (by simp [results, Try.results69, go_sem, q0, q1, q2, t0, t1]) rfl ?_
    rw [E.out]
    exact ⟨_, c, _, d, rfl, h.step (b4 ..), b4 .., fun _ _ hh => hh⟩
  · have e1 : (kind == 1) = false := by simpa using hk1
    by_cases hk3 : kind = 3 ∧ xk ≠ old
    · obtain ⟨rfl, hne⟩ := hk3
      have e2 : (xk != old) = true := by simpa using hne
      have E := hid (show stepM (ws, ls, f) (3, (k : Int), old, new) = ((ws, ls, f), (xk, false)) by unfold stepM; rw [if_neg (by rw [hg]; simp), if_neg (by simp), if_pos ⟨rfl, by dsimp only; rw [Int.toNat_natCast, ← HXK.out]; exact hne⟩]; dsimp only; rw [Int.toNat_natCast, ← HXK.out])
      clear hk1 hne hg HR hlx hly x3 e1
      go_enter Try.func69, Try.ntmps69
      go_wp2
      obtain ⟨q0, q1, q2, qf⟩ := ((Blk.new3 w 44 (mcs (some ⟨b, off, none⟩) m c (some ⟨b', off', none⟩) m d f) (.cells (mcs (some ⟨b, off, none⟩) m c (some ⟨b', off', none⟩) m d f) 44) (.cells (acs 3 (k : Int) old new) 116)).step (below_box _ (.cells #[.int .u64 xk, .bool false] 112))).cells3
      obtain ⟨t0, t1, tf⟩ := (Blk.new4 w 112 #[.int .u64 xk, .bool false] (.cells (mcs (some ⟨b, off, none⟩) m c (some ⟨b', off', none⟩) m d f) 44) (.cells (acs 3 (k : Int) old new) 116) (.cells (mcs (some ⟨b, off, none⟩) m c (some ⟨b', off', none⟩) m d f) 44)).cells2
      refine bodyPost_ret (v := .tuple #[mv (some ⟨b, off, none⟩) m c (some ⟨b', off', none⟩) m d f, gv xk false]) (by simp [results, Try.results69, go_sem, q0, q1, q2, t0, t1]) rfl ?_
      rw [E.out]
      exact ⟨_, c, _, d, rfl, h.step (b4 ..), b4 .., fun _ _ hh => hh⟩
    · by_cases h3 : kind = 3
      · have e2 : (xk != old) = false := by simp; exact Classical.byContradiction fun hh => hk3 ⟨h3, hh⟩
        have E := hid (show stepM (ws, ls, f) (kind, (k : Int), old, new) = ((ws.set k new, ls, f), (xk, true)) by unfold stepM; rw [if_neg (by rw [hg]; simp), if_neg hk1, if_neg (fun hh => hk3 ⟨hh.1, by have := hh.2; dsimp only at this; rwa [Int.toNat_natCast, ← HXK.out] at this⟩)]; dsimp only; rw [Int.toNat_natCast, ← HXK.out])
        have e3 : (kind == 3) = true := by simpa using h3
        clear hg hk1 hk3 h3 
        have HPZ := hid ((Blk.new3 w 44 (mcs none 0 0 none 0 0 false) (.cells (mcs (some ⟨b, off, none⟩) m c (some ⟨b', off', none⟩) m d f) 44) (.cells (acs kind (k : Int) old new) 116)).step (below_box _ (.cells #[.int .u64 0, .bool false] 112)))
        have HPG := hid (Blk.new4 w 112 #[.int .u64 0, .bool false] (.cells (mcs (some ⟨b, off, none⟩) m c (some ⟨b', off', none⟩) m d f) 44) (.cells (acs kind (k : Int) old new) 116) (.cells (mcs none 0 0 none 0 0 false) 44))
        have HB := hid (b4 w (.cells (mcs (some ⟨b, off, none⟩) m c (some ⟨b', off', none⟩) m d f) 44) (.cells (acs kind (k : Int) old new) 116) (.cells (mcs none 0 0 none 0 0 false) 44) (.cells #[.int .u64 0, .bool false] 112))
        go_enter Try.func69, Try.ntmps69
        go_wp2_with fail
        refine (rwith_any (some ⟨b, off, none⟩) m c (some ⟨b', off', none⟩) m d f ws ls k new true _ HR.out rfl hk).mono ?_
        rintro e w1 ⟨A1, n1, c1, B1, m1, d1, rfl, ho, hb⟩
        rw [HLS.out] at ho
        have hn1 : n1 = m := ho.oa.len.symm.trans (by simpa using hlx.out)
        have hm1 : m1 = m := ho.ob.len.symm.trans hly.out
        subst hn1
        subst hm1
        have hz := HPG.out.lt
        have HO := hid ho
        replace HPZ := hid (HPZ.out.step hb); replace HPG := hid (HPG.out.step hb); replace HB := hid (below_then HB.out hb)
        obtain ⟨z0, z1, z2, zf⟩ := HPZ.out.cells3
        obtain ⟨y0, y1, yf⟩ := HPG.out.cells2
        clear ho hb
        go_wp2
        obtain ⟨q0, q1, q2, qf⟩ := ((((HPZ.out.setCell 0 (.slice A1 m1 c1)).setCell 1 (.slice B1 m1 d1)).setCell 2 (.bool f)).far (p := ⟨w.heap.size + 1 + 1 + 1, 0, none⟩) (by simp) (.int .u64 xk)).far (p := ⟨w.heap.size + 1 + 1 + 1, 1, none⟩) (by simp) (.bool true) |>.cells3
        obtain ⟨t0, t1, tf⟩ := (((((HPG.out.far (p := ⟨w.heap.size + 1 + 1, 0, none⟩) (by simp) (.slice A1 m1 c1)).far (p := ⟨w.heap.size + 1 + 1, 1, none⟩) (by simp) (.slice B1 m1 d1)).far (p := ⟨w.heap.size + 1 + 1, 2, none⟩) (by simp) (.bool f)).setCell 0 (.int .u64 xk)).setCell 1 (.bool true)).cells2
        refine bodyPost_ret (v := .tuple #[mv A1 m1 c1 B1 m1 d1 f, gv xk true]) (by simp [results, Try.results69, go_sem, q0, q1, q2, t0, t1]) rfl ?_
        rw [E.out]
        exact ⟨A1, c1, B1, d1, rfl, (((((HO.out.setCell (by simp <;> omega) _).setCell (by simp <;> omega) _).setCell (by simp <;> omega) _).setCell (by simp <;> omega) _).setCell (by simp <;> omega) _).mem, (((((HB.out.setCell (by simp <;> omega) _).setCell (by simp <;> omega) _).setCell (by simp <;> omega) _).setCell (by simp <;> omega) _).setCell (by simp <;> omega) _), fun g hg _ => HO.out.far (by simp; omega)⟩
      · have E := hid (show stepM (ws, ls, f) (kind, (k : Int), old, new) = ((ws.set k new, ls, f), (xk, true)) by unfold stepM; rw [if_neg (by rw [hg]; simp), if_neg hk1, if_neg (fun hh => hk3 ⟨hh.1, by have := hh.2; dsimp only at this; rwa [Int.toNat_natCast, ← HXK.out] at this⟩)]; dsimp only; rw [Int.toNat_natCast, ← HXK.out])
        have e3 : (kind == 3) = false := by simpa using h3
        clear hg hk1 hk3 h3 
        have HPZ := hid ((Blk.new3 w 44 (mcs none 0 0 none 0 0 false) (.cells (mcs (some ⟨b, off, none⟩) m c (some ⟨b', off', none⟩) m d f) 44) (.cells (acs kind (k : Int) old new) 116)).step (below_box _ (.cells #[.int .u64 0, .bool false] 112)))
        have HPG := hid (Blk.new4 w 112 #[.int .u64 0, .bool false] (.cells (mcs (some ⟨b, off, none⟩) m c (some ⟨b', off', none⟩) m d f) 44) (.cells (acs kind (k : Int) old new) 116) (.cells (mcs none 0 0 none 0 0 false) 44))
        have HB := hid (b4 w (.cells (mcs (some ⟨b, off, none⟩) m c (some ⟨b', off', none⟩) m d f) 44) (.cells (acs kind (k : Int) old new) 116) (.cells (mcs none 0 0 none 0 0 false) 44) (.cells #[.int .u64 0, .bool false] 112))
        go_enter Try.func69, Try.ntmps69
        go_wp2_with fail
        refine (rwith_any (some ⟨b, off, none⟩) m c (some ⟨b', off', none⟩) m d f ws ls k new true _ HR.out rfl hk).mono ?_
        rintro e w1 ⟨A1, n1, c1, B1, m1, d1, rfl, ho, hb⟩
        rw [HLS.out] at ho
        have hn1 : n1 = m := ho.oa.len.symm.trans (by simpa using hlx.out)
        have hm1 : m1 = m := ho.ob.len.symm.trans hly.out
        subst hn1
        subst hm1
        have hz := HPG.out.lt
        have HO := hid ho
        replace HPZ := hid (HPZ.out.step hb); replace HPG := hid (HPG.out.step hb); replace HB := hid (below_then HB.out hb)
        obtain ⟨z0, z1, z2, zf⟩ := HPZ.out.cells3
        obtain ⟨y0, y1, yf⟩ := HPG.out.cells2
        clear ho hb
        go_wp2
        obtain ⟨q0, q1, q2, qf⟩ := ((((HPZ.out.setCell 0 (.slice A1 m1 c1)).setCell 1 (.slice B1 m1 d1)).setCell 2 (.bool f)).far (p := ⟨w.heap.size + 1 + 1 + 1, 0, none⟩) (by simp) (.int .u64 xk)).far (p := ⟨w.heap.size + 1 + 1 + 1, 1, none⟩) (by simp) (.bool true) |>.cells3
        obtain ⟨t0, t1, tf⟩ := (((((HPG.out.far (p := ⟨w.heap.size + 1 + 1, 0, none⟩) (by simp) (.slice A1 m1 c1)).far (p := ⟨w.heap.size + 1 + 1, 1, none⟩) (by simp) (.slice B1 m1 d1)).far (p := ⟨w.heap.size + 1 + 1, 2, none⟩) (by simp) (.bool f)).setCell 0 (.int .u64 xk)).setCell 1 (.bool true)).cells2
        refine bodyPost_ret (v := .tuple #[mv A1 m1 c1 B1 m1 d1 f, gv xk true]) (by simp [results, Try.results69, go_sem, q0, q1, q2, t0, t1]) rfl ?_
        rw [E.out]
        exact ⟨A1, c1, B1, d1, rfl, (((((HO.out.setCell (by simp <;> omega) _).setCell (by simp <;> omega) _).setCell (by simp <;> omega) _).setCell (by simp <;> omega) _).setCell (by simp <;> omega) _).mem, (((((HB.out.setCell (by simp <;> omega) _).setCell (by simp <;> omega) _).setCell (by simp <;> omega) _).setCell (by simp <;> omega) _).setCell (by simp <;> omega) _), fun g hg _ => HO.out.far (by simp; omega)⟩
theorem rstep_any (A : Option Addr) (n c : Nat) (B : Option Addr) (m d : Nat) (f : Bool) (ws : List Int) (ls : List Bool) (kind at_ old new : Int) (w : World) (h : Mem w A n c B m d ws ls) (hnm : m = n) :
    Calls Try.prog 69 #[mv A n c B m d f, av kind at_ old new] w (RSPost w A n B (stepM (ws, ls, f) (kind, at_, old, new))) := by
  cases hg : goodAt (ws, ls, f) at_
  · exact rstep_bad A n c B m d f ws ls kind at_ old new w h hnm hg
  · exact rstep_good A n c B m d f ws ls kind at_ old new w h hnm hg
end Go.Proofs.Ytnkaajkdjbdpaaa
