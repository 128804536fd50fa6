/- package memory: Live, Free, Same. No condition but sizes. -/
import Derived.Test.YtnkaajkdjbdpaaaMe4
namespace Go.Proofs.Ytnkaajkdjbdpaaa
open Go.RowKit
abbrev MSt := List Int × List Bool × Bool
theorem Mown.none (W : World) (lo : Nat) : Mown W lo none 0 0 none 0 0 [] [] := ⟨Ow.nil _ _ _, Ow.nil _ _ _, fun a b h => (by cases h), by omega, by omega⟩
theorem Mown.setCell {W : World} {A : Option Addr} {n c lo : Nat} {B : Option Addr} {m d : Nat} {ws : List Int} {ls : List Bool} (h : Mown W lo A n c B m d ws ls) {p : Addr} (hp : p.block < lo) (u : Value) : Mown (W.setCell p u) lo A n c B m d ws ls := ⟨h.oa.setCell hp u, h.ob.setCell hp u, h.apart, h.hn, h.hm⟩
/-- a memory of its own, and a code -/
def MPost (W : World) (r : Int × MSt) (e : Ending) (W' : World) : Prop :=
  ∃ A n c B m d, e = .returned (.tuple #[mv A n c B m d r.2.2.2, .int .i64 r.1]) ∧ Mown W' W.heap.size A n c B m d r.2.1 r.2.2.1 ∧ Below W.heap.size W W'
def turnF (s : MSt) (fr mn : Int) (live : Bool) (holds no : Int) : Int × MSt :=
  if turnC s.1 s.2.1 fr mn live no = 0 then (0, setR s.1 fr.toNat holds mn.toNat, setR s.2.1 fr.toNat live mn.toNat, s.2.2) else (turnC s.1 s.2.1 fr mn live no, [], [], false)
theorem turnC_zero {ws : List Int} {ls : List Bool} {fr mn : Int} {live : Bool} {no : Int} (h : turnC ws ls fr mn live no = 0) (hno : no ≠ 0) :
    MGood ws ls ∧ 1 ≤ mn ∧ 0 ≤ fr ∧ fr + mn ≤ ws.length ∧ ∀ k, k < mn.toNat → (((ls.drop fr.toNat).take mn.toNat)[k]?.getD false != live) = true := by
  unfold turnC at h
  split at h
  · omega
  split at h
  · omega
  split at h
  · omega
  · rename_i h1 h2 h3
    exact ⟨Classical.not_not.1 h1, by omega, by omega, by omega, Classical.not_not.1 h3⟩
theorem turned_any (A : Option Addr) (n c : Nat) (B : Option Addr) (m d : Nat) (f : Bool) (fr mn : Int) (live : Bool) (holds no : Int) (ws : List Int) (ls : List Bool) (w : World) (h : Mem w A n c B m d ws ls) (hno : no ≠ 0) (hf0 : -9223372036854775808 ≤ fr) (hf1 : fr ≤ 9223372036854775807) :
    Calls Try.prog 68 (turnP A n c B m d f fr mn live holds no) w (MPost w (turnF (ws, ls, f) fr mn live holds no)) := by
  by_cases hc : turnC ws ls fr mn live no = 0
  · obtain ⟨h1, h2, h3, h4, h5⟩ := turnC_zero hc hno
    obtain ⟨fr, rfl⟩ := Int.eq_ofNat_of_zero_le h3
    obtain ⟨mn, rfl⟩ := Int.eq_ofNat_of_zero_le (by omega : 0 ≤ mn)
    refine (turned_ok A n c B m d f fr mn live holds no ws ls w h h1 (by omega) (by have := h.lenx; omega) (by simpa using h5)).mono ?_
    rintro e w' ⟨ga, gb, rfl, ho, hb⟩
    have e : turnF (ws, ls, f) fr mn live holds no = (0, setR ws fr holds mn, setR ls fr live mn, f) := by unfold turnF; rw [if_pos hc]; rfl
    rw [e]
    exact ⟨_, _, _, _, _, _, rfl, ho, hb⟩
  · refine (turned_bad A n c B m d f fr mn live holds no ws ls w h hno hc hf0 hf1).mono ?_
    rintro e w' ⟨rfl, hb⟩
    have e : turnF (ws, ls, f) fr mn live holds no = (turnC ws ls fr mn live no, [], [], false) := by unfold turnF; rw [if_neg hc]
    rw [e]
    exact ⟨_, _, _, _, _, _, rfl, Mown.none _ _, hb⟩
set_option maxHeartbeats 2000000 in
theorem mlive_any (A : Option Addr) (n c : Nat) (B : Option Addr) (m d : Nat) (f : Bool) (fr mn : Int) (ws : List Int) (ls : List Bool) (w : World) (h : Mem w A n c B m d ws ls) (hf0 : -9223372036854775808 ≤ fr) (hf1 : fr ≤ 9223372036854775807) :
    Calls Try.prog 53 #[mv A n c B m d f, .int .i64 fr, .int .i64 mn] w (MPost w (turnF (ws, ls, f) fr mn true 0 5)) := by
  have hB := below_then (below_box w (.cells (mcs A n c B m d f) 44)) (below_box _ (.cells (mcs none 0 0 none 0 0 false) 44))
  have PR := (Blk.new w 44 (mcs A n c B m d f)).step (below_box _ (.cells (mcs none 0 0 none 0 0 false) 44))
  have PZ := hid (Blk.new2 w 44 (mcs none 0 0 none 0 0 false) (.cells (mcs A n c B m d f) 44))
  have HR := hid (h.step hB)
  have HB := hid hB
  obtain ⟨k0, k1, k2, kf⟩ := PR.cells3
  clear PR hB h
  go_enter Try.func53, Try.ntmps53
  go_wp2_with fail
  clear k0 k1 k2 kf
  refine (turned_any A n c B m d f fr mn true 0 5 ws ls _ HR.out (by omega) hf0 hf1).mono ?_
  rintro e w1 ⟨A1, n1, c1, B1, m1, d1, rfl, ho, hb⟩
  have PZ1 := hid (PZ.out.step hb)
  have HB1 := hid (below_then HB.out hb)
  have HO := hid (ho.mono (lo' := w.heap.size + 2) (by simp))
  clear hb ho
  obtain ⟨r, hr⟩ : ∃ r, r = turnF (ws, ls, f) fr mn true 0 5 := ⟨_, rfl⟩
  rw [← hr] at HO ⊢
  have HE := hid hr
  clear hr
  obtain ⟨r0, r1, r2, r3⟩ := r
  dsimp only at HO ⊢
  obtain ⟨z0, z1, z2, zf⟩ := PZ1.out.cells3
  go_wp2
  obtain ⟨q0, q1, q2, qf⟩ := (((PZ1.out.setCell 0 (.slice A1 n1 c1)).setCell 1 (.slice B1 m1 d1)).setCell 2 (.bool r3)).cells3
  refine bodyPost_ret (v := .tuple #[mv A1 n1 c1 B1 m1 d1 r3, .int .i64 r0]) (by simp [results, Try.results53, go_sem, q0, q1, q2]) rfl ?_
  rw [← HE.out]
  refine ⟨A1, n1, c1, B1, m1, d1, rfl, ?_, ?_⟩
  · exact (((HO.out.setCell (by simp) _).setCell (by simp) _).setCell (by simp) _).mono (by omega)
  · exact ((HB1.out.setCell (by simp <;> omega) _).setCell (by simp <;> omega) _).setCell (by simp <;> omega) _

def sameM (a b : MSt) : Bool := decide (a.2.2 = b.2.2 ∧ a.1 = b.1 ∧ a.2.1 = b.2.1)
end Go.Proofs.Ytnkaajkdjbdpaaa
