/- afterglowref02: Live, Free, Step. afterglowlaw02: spoil. No condition but sizes. -/
import Derived.Test.YtenhojdhjfoomaaMWith
namespace Go.Proofs.Ytenhojdhjfoomaa
open Go.RowKit
/-- block g is no part of the rows -/
def FarM (n : Nat) (A B : Option Addr) (g : Nat) : Prop := 0 < n → (∀ a, A = some a → a.block ≠ g) ∧ (∀ b, B = some b → b.block ≠ g)
section
variable {W W' : World} {lo : Nat} {A : Option Addr} {n c : Nat} {B : Option Addr} {d : Nat} {ws : List Int} {ls : List Bool} {g : Nat}
theorem Mem.far (h : Mem W A n c B n d ws ls) (hg : W.heap.size ≤ g) : FarM n A B g := fun hn => by
  obtain ⟨b, off, rfl, _, h1, _⟩ := h.hx.row hn
  obtain ⟨b', off', rfl, _, h2, _⟩ := h.hy.row hn
  exact ⟨fun a ha => by simp at ha; subst ha; simp; omega, fun a ha => by simp at ha; subst ha; simp; omega⟩
theorem Mown.far (h : Mown W lo A n c B n d ws ls) (hg : g < lo) : FarM n A B g := fun _ =>
  ⟨fun a ha => by subst ha; have := h.oa.own.lt a.block rfl; omega, fun a ha => by subst ha; have := h.ob.own.lt a.block rfl; omega⟩
theorem Mem.setFar (h : Mem W A n c B n d ws ls) (hf : FarM n A B g) (o : Nat) (u : Value) : Mem (W.setCell ⟨g, o, none⟩ u) A n c B n d ws ls := by
  refine ⟨⟨h.hx.len, fun hn => ?_⟩, ⟨h.hy.len, fun hn => ?_⟩, h.hnc, h.hmd, h.hn, h.hm⟩
  · obtain ⟨b, off, rfl, h0, h1, h2⟩ := h.hx.row hn
    exact ⟨b, off, rfl, h0, by simpa using h1, fun k hk => (World.cell?_setCell_other W _ _ u (fun e => (hf hn).1 _ rfl (congrArg Addr.block e).symm)).trans (h2 k hk)⟩
  · obtain ⟨b, off, rfl, h0, h1, h2⟩ := h.hy.row hn
    exact ⟨b, off, rfl, h0, by simpa using h1, fun k hk => (World.cell?_setCell_other W _ _ u (fun e => (hf hn).2 _ rfl (congrArg Addr.block e).symm)).trans (h2 k hk)⟩
end
/-- a memory that can be read -/
def RMPost (W : World) (A : Option Addr) (n : Nat) (B : Option Addr) (r : MSt) (e : Ending) (W' : World) : Prop :=
  ∃ A' c' B' d', e = .returned (mv A' n c' B' n d' r.2.2) ∧ Mem W' A' n c' B' n d' r.1 r.2.1 ∧ Below W.heap.size W W' ∧ ∀ g, g < W.heap.size → FarM n A B g → FarM n A' B' g
def FarK (N m : Nat) (A B A' B' : Option Addr) : Prop := FarM m A' B' (N + 1) ∧ ∀ g, g < N → FarM m A B g → FarM m A' B' g
set_option maxHeartbeats 2000000 in
theorem rlive_any (A : Option Addr) (n c : Nat) (B : Option Addr) (m d : Nat) (f : Bool) (ws : List Int) (ls : List Bool) (fr mn : Nat) (w : World) (h : Mem w A n c B m d ws ls) (hnm : m = n) (hle : fr + mn ≤ n) :
    Calls Try.prog 15 #[mv A n c B m d f, .int .i64 fr, .int .i64 mn] w (RMPost w A n B (setR ws fr 0 mn, setR ls fr true mn, f)) := by
  subst hnm
  have hB := below_then (below_box w (.cells (mcs A m c B m d f) 25)) (below_box _ (.cells (mcs none 0 0 none 0 0 false) 25))
  have P3 := (Blk.new w 25 (mcs A m c B m d f)).step (below_box _ (.cells (mcs none 0 0 none 0 0 false) 25))
  have P6 := Blk.new2 w 25 (mcs none 0 0 none 0 0 false) (.cells (mcs A m c B m d f) 25)
  have H0R := hid (h.step hB); have H0P3 := hid P3; have H0P6 := hid P6; have H0B := hid hB
  have hfar : FarM m A B (w.heap.size + 1) := h.far (by omega)
  have hn := h.hn
  clear h P3 P6 hB
  go_enter Try.func15, Try.ntmps15
  go_wp2_with fail
  go_loopw [9] (fun i wr => ∃ j : Nat, ∃ A' c' B' d', j ≤ mn ∧ i = .int .i64 j ∧ Blk wr w.heap.size 25 (mcs A' m c' B' m d' f) ∧ Blk wr (w.heap.size + 1) 25 (mcs none 0 0 none 0 0 false) ∧ Mem wr A' m c' B' m d' (setR ws fr 0 j) (setR ls fr true j) ∧ FarK w.heap.size m A B A' B' ∧ Below w.heap.size w wr) (fun i _ => mn - (intOf i).toNat)
  case atStart => exact ⟨0, A, c, B, d, Nat.zero_le _, rfl, H0P3.out, H0P6.out, H0R.out, ⟨hfar, fun _ _ hh => hh⟩, H0B.out⟩
  case round =>
    obtain ⟨j, A', c', B', d', hj, rfl, P3, P6, R, hfr, hB⟩ := hrel
    have HFR := hid hfr
    clear H0P3 H0P6 H0R H0B hfar hfr
    have HP3 := hid P3; have HP6 := hid P6; have HR := hid R; have HB := hid hB
    have h0 := P3.lt; have h1 := P6.lt
    by_cases hjl : j < mn
    · have hw : IntKind.i64.wrap ((fr : Int) + (j : Int)) = ((fr + j : Nat) : Int) := by rw [IntKind.wrap_i64]; omega
      obtain ⟨p0, p1, p2, pf⟩ := P3.cells3
      clear P3 P6 R hB
      go_wp2_with fail
      refine (rwith_any A' m c' B' m d' f (setR ws fr 0 j) (setR ls fr true j) (fr + j) 0 true _ HR.out rfl (by omega)).mono ?_
      rintro e w1 ⟨A1, n1, c1, B1, m1, d1, rfl, ho, hb⟩
      have hn1 : n1 = m := by have h2 := ho.oa.len; have h3 := HR.out.lenx; rw [List.length_set] at h2; exact h2.symm.trans h3
      have hm1 : m1 = m := by have h2 := ho.ob.len; have h3 := HR.out.leny; rw [List.length_set] at h2; exact h2.symm.trans h3
      subst hn1
      subst hm1
      have P3 := HP3.out.step hb; have P6 := HP6.out.step hb; have hB := below_then HB.out hb
      have HP3 := hid P3; have HP6 := hid P6; have HB := hid hB; have HO := hid ho
      obtain ⟨q0, q1, q2, qf⟩ := P3.cells3
      clear P3 P6 hB hb ho p0 p1 p2 pf
      go_wp2
      go_roundw
      case rel => exact ⟨j + 1, A1, c1, B1, d1, by omega, by go_num, ((HP3.out.setCell 0 _).setCell 1 _).setCell 2 _, ((HP6.out.far (by simp) _).far (by simp) _).far (by simp) _, (((HO.out.setCell h0 _).setCell h0 _).setCell h0 _).mem, ⟨HO.out.far h1, fun g hg _ => HO.out.far (by omega)⟩, ((HB.out.setCell (Nat.le_refl _) _).setCell (Nat.le_refl _) _).setCell (Nat.le_refl _) _⟩
      case measure => simp [intOf]; omega
    · obtain rfl : j = mn := by omega
      obtain ⟨p0, p1, p2, pf⟩ := P3.cells3
      obtain ⟨z0, z1, z2, zf⟩ := P6.cells3
      clear P3 P6 R hB
      go_wp2
      obtain ⟨q0, q1, q2, qf⟩ := (((HP6.out.setCell 0 (.slice A' m c')).setCell 1 (.slice B' m d')).setCell 2 (.bool f)).cells3
      refine bodyPost_ret (v := mv A' m c' B' m d' f) (by simp [results, Try.results15, go_sem, q0, q1, q2]) rfl ?_
      have hB := ((HB.out.setCell (p := ⟨w.heap.size + 1, 0, none⟩) (by simp) (.slice A' m c')).setCell (p := ⟨w.heap.size + 1, 1, none⟩) (by simp) (.slice B' m d')).setCell (p := ⟨w.heap.size + 1, 2, none⟩) (by simp) (.bool f)
      exact ⟨A', c', B', d', rfl, (((HR.out.setFar (g := w.heap.size + 1) HFR.out.1 0 _).setFar HFR.out.1 1 _).setFar HFR.out.1 2 _), hB, HFR.out.2⟩

set_option maxHeartbeats 2000000 in
theorem rfree_any (A : Option Addr) (n c : Nat) (B : Option Addr) (m d : Nat) (f : Bool) (ws : List Int) (ls : List Bool) (fr mn : Nat) (w : World) (h : Mem w A n c B m d ws ls) (hnm : m = n) (hle : fr + mn ≤ n) :
    Calls Try.prog 16 #[mv A n c B m d f, .int .i64 fr, .int .i64 mn] w (RMPost w A n B (setR ws fr poison mn, setR ls fr false mn, f)) := by
  subst hnm
  have hB := below_then (below_box w (.cells (mcs A m c B m d f) 25)) (below_box _ (.cells (mcs none 0 0 none 0 0 false) 25))
  have P3 := (Blk.new w 25 (mcs A m c B m d f)).step (below_box _ (.cells (mcs none 0 0 none 0 0 false) 25))
  have P6 := Blk.new2 w 25 (mcs none 0 0 none 0 0 false) (.cells (mcs A m c B m d f) 25)
  have H0R := hid (h.step hB); have H0P3 := hid P3; have H0P6 := hid P6; have H0B := hid hB
  have hfar : FarM m A B (w.heap.size + 1) := h.far (by omega)
  have hn := h.hn
  clear h P3 P6 hB
  go_enter Try.func16, Try.ntmps16
  go_wp2_with fail
  go_loopw [9] (fun i wr => ∃ j : Nat, ∃ A' c' B' d', j ≤ mn ∧ i = .int .i64 j ∧ Blk wr w.heap.size 25 (mcs A' m c' B' m d' f) ∧ Blk wr (w.heap.size + 1) 25 (mcs none 0 0 none 0 0 false) ∧ Mem wr A' m c' B' m d' (setR ws fr poison j) (setR ls fr false j) ∧ FarK w.heap.size m A B A' B' ∧ Below w.heap.size w wr) (fun i _ => mn - (intOf i).toNat)
  case atStart => exact ⟨0, A, c, B, d, Nat.zero_le _, rfl, H0P3.out, H0P6.out, H0R.out, ⟨hfar, fun _ _ hh => hh⟩, H0B.out⟩
  case round =>
    obtain ⟨j, A', c', B', d', hj, rfl, P3, P6, R, hfr, hB⟩ := hrel
    have HFR := hid hfr
    clear H0P3 H0P6 H0R H0B hfar hfr
    have HP3 := hid P3; have HP6 := hid P6; have HR := hid R; have HB := hid hB
    have h0 := P3.lt; have h1 := P6.lt
    by_cases hjl : j < mn
    · have hw : IntKind.i64.wrap ((fr : Int) + (j : Int)) = ((fr + j : Nat) : Int) := by rw [IntKind.wrap_i64]; omega
      obtain ⟨p0, p1, p2, pf⟩ := P3.cells3
      clear P3 P6 R hB
      go_wp2_with fail
      refine (rwith_any A' m c' B' m d' f (setR ws fr poison j) (setR ls fr false j) (fr + j) poison false _ HR.out rfl (by omega)).mono ?_
      rintro e w1 ⟨A1, n1, c1, B1, m1, d1, rfl, ho, hb⟩
      have hn1 : n1 = m := by have h2 := ho.oa.len; have h3 := HR.out.lenx; rw [List.length_set] at h2; exact h2.symm.trans h3
      have hm1 : m1 = m := by have h2 := ho.ob.len; have h3 := HR.out.leny; rw [List.length_set] at h2; exact h2.symm.trans h3
      subst hn1
      subst hm1
      have P3 := HP3.out.step hb; have P6 := HP6.out.step hb; have hB := below_then HB.out hb
      have HP3 := hid P3; have HP6 := hid P6; have HB := hid hB; have HO := hid ho
      obtain ⟨q0, q1, q2, qf⟩ := P3.cells3
      clear P3 P6 hB hb ho p0 p1 p2 pf
      go_wp2
      go_roundw
      case rel => exact ⟨j + 1, A1, c1, B1, d1, by omega, by go_num, ((HP3.out.setCell 0 _).setCell 1 _).setCell 2 _, ((HP6.out.far (by simp) _).far (by simp) _).far (by simp) _, (((HO.out.setCell h0 _).setCell h0 _).setCell h0 _).mem, ⟨HO.out.far h1, fun g hg _ => HO.out.far (by omega)⟩, ((HB.out.setCell (Nat.le_refl _) _).setCell (Nat.le_refl _) _).setCell (Nat.le_refl _) _⟩
      case measure => simp [intOf]; omega
    · obtain rfl : j = mn := by omega
      obtain ⟨p0, p1, p2, pf⟩ := P3.cells3
      obtain ⟨z0, z1, z2, zf⟩ := P6.cells3
      clear P3 P6 R hB
      go_wp2
      obtain ⟨q0, q1, q2, qf⟩ := (((HP6.out.setCell 0 (.slice A' m c')).setCell 1 (.slice B' m d')).setCell 2 (.bool f)).cells3
      refine bodyPost_ret (v := mv A' m c' B' m d' f) (by simp [results, Try.results16, go_sem, q0, q1, q2]) rfl ?_
      have hB := ((HB.out.setCell (p := ⟨w.heap.size + 1, 0, none⟩) (by simp) (.slice A' m c')).setCell (p := ⟨w.heap.size + 1, 1, none⟩) (by simp) (.slice B' m d')).setCell (p := ⟨w.heap.size + 1, 2, none⟩) (by simp) (.bool f)
      exact ⟨A', c', B', d', rfl, (((HR.out.setFar (g := w.heap.size + 1) HFR.out.1 0 _).setFar HFR.out.1 1 _).setFar HFR.out.1 2 _), hB, HFR.out.2⟩

end Go.Proofs.Ytenhojdhjfoomaa
