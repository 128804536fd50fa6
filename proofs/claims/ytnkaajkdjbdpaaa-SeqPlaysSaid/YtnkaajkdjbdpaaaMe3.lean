/- package memory: New, turned where it errs. No condition but sizes. -/
import Derived.Test.YtnkaajkdjbdpaaaMe2
namespace Go.Proofs.Ytnkaajkdjbdpaaa
open Go.RowKit
@[reducible] def mnil : Value := mv none 0 0 none 0 0 false
def MNewPost (W : World) (n : Nat) (e : Ending) (W' : World) : Prop :=
  ∃ ga gb, e = .returned (.tuple #[mv (some ⟨ga, 0, none⟩) n n (some ⟨gb, 0, none⟩) n n false, .int .i64 0]) ∧ Mown W' W.heap.size (some ⟨ga, 0, none⟩) n n (some ⟨gb, 0, none⟩) n n (List.replicate n 0) (List.replicate n false) ∧ Below W.heap.size W W'
set_option maxHeartbeats 2000000 in
theorem mnew_ok (n : Nat) (w : World) (h1 : 1 ≤ n) (h8 : n ≤ 4096) : Calls Try.prog 52 #[.int .i64 n] w (MNewPost w n) := by
  have hm1 := run_make_u64 n (by omega)
  have hm2 := run_make_bool n (by omega)
  have g1 : ¬ (n : Int) < 1 := by omega
  have g2 : ¬ (4096 : Int) < (n : Int) := by omega
  go_enter Try.func52, Try.ntmps52
  go_wp2
  go_region
  · go_wp2
    refine bodyPost_ret (v := .tuple #[mv (some ⟨w.heap.size + 1, 0, none⟩) n n (some ⟨w.heap.size + 1 + 1, 0, none⟩) n n false, .int .i64 0]) (by simp [results, Try.results52, go_sem]) rfl ⟨_, _, rfl, ⟨?_, ?_, fun a b e1 e2 => by simp at e1 e2; subst e1 e2; simp, by omega, by omega⟩, ?_⟩
    · exact ((Ow.made (enc := u64v) 0 (by simp) (by simp [maxLen]; omega) (by simp)).alloc _).drewN 1
    · exact (Ow.made (enc := blv) false (by simp <;> omega) (by simp [maxLen]; omega) (by simp)).drewN 1
    · exact below_drewN ((((Below.refl _ w).alloc (Nat.le_refl _) _).alloc (by simp) _).alloc (by simp <;> omega) _) 1
  · go_wp2
    refine bodyPost_ret (v := .tuple #[mv (some ⟨w.heap.size + 1 + 1, 0, none⟩) n n (some ⟨w.heap.size + 1, 0, none⟩) n n false, .int .i64 0]) (by simp [results, Try.results52, go_sem]) rfl ⟨_, _, rfl, ⟨?_, ?_, fun a b e1 e2 => by simp at e1 e2; subst e1 e2; simp, by omega, by omega⟩, ?_⟩
    · exact (Ow.made (enc := u64v) 0 (by simp <;> omega) (by simp [maxLen]; omega) (by simp)).drewN 1
    · exact ((Ow.made (enc := blv) false (by simp) (by simp [maxLen]; omega) (by simp)).alloc _).drewN 1
    · exact below_drewN ((((Below.refl _ w).alloc (Nat.le_refl _) _).alloc (by simp) _).alloc (by simp <;> omega) _) 1
theorem turned1_any (i : Int) (x : Bool) (g : Nat) (t : TypeId) (live : Bool) (w : World) (hP : Blk w g t #[.bool live]) :
    Calls Try.prog 73 #[.int .i64 i, .bool x, .pointer (some ⟨g, 0, none⟩)] w fun e w' => e = .returned (.bool (x != live)) ∧ Below w.heap.size w w' := by
  obtain ⟨k0, kf⟩ := hP.cells1
  go_enter Try.func73, Try.ntmps73
  go_wp2
  go_ret
  exact ⟨rfl, Below.refl _ _⟩
/-- what turned comes to -/
def turnC (ws : List Int) (ls : List Bool) (fr mn : Int) (live : Bool) (no : Int) : Int :=
  if ¬ MGood ws ls then 120 else if mn < 1 ∨ fr < 0 ∨ (ws.length : Int) ≤ fr ∨ (ws.length : Int) - fr < mn then 2
  else if ¬ ∀ k, k < mn.toNat → (((ls.drop fr.toNat).take mn.toNat)[k]?.getD false != live) = true then no else 0
@[reducible] def turnP (A : Option Addr) (n c : Nat) (B : Option Addr) (m d : Nat) (f : Bool) (fr mn : Int) (live : Bool) (holds no : Int) : Array Value := #[mv A n c B m d f, .int .i64 fr, .int .i64 mn, .bool live, .int .u64 holds, .int .i64 no]
def ErrPost (W : World) (v : Value) (code : Int) (e : Ending) (W' : World) : Prop := e = .returned (.tuple #[v, .int .i64 code]) ∧ Below W.heap.size W W'

set_option maxHeartbeats 4000000 in
theorem turned_bad (A : Option Addr) (n c : Nat) (B : Option Addr) (m d : Nat) (f : Bool) (fr mn : Int) (live : Bool) (holds no : Int) (ws : List Int) (ls : List Bool) (w : World) (h : Mem w A n c B m d ws ls) (hno : no ≠ 0) (hbad : turnC ws ls fr mn live no ≠ 0) (hf0 : -9223372036854775808 ≤ fr) (hf1 : fr ≤ 9223372036854775807) :
    Calls Try.prog 68 (turnP A n c B m d f fr mn live holds no) w (ErrPost w mnil (turnC ws ls fr mn live no)) := by
  have hB := below_then (below_then (below_box w (.cells (mcs A n c B m d f) 44)) (below_box _ (.cells #[.bool live] 4))) (below_box _ (.cells (mcs none 0 0 none 0 0 false) 44))
  have PR := ((Blk.new w 44 (mcs A n c B m d f)).step (below_box _ (.cells #[.bool live] 4))).step (below_box _ (.cells (mcs none 0 0 none 0 0 false) 44))
  have PX := (Blk.new2 w 4 #[.bool live] (.cells (mcs A n c B m d f) 44)).step (below_box _ (.cells (mcs none 0 0 none 0 0 false) 44))
  have PZ := Blk.new3 w 44 (mcs none 0 0 none 0 0 false) (.cells (mcs A n c B m d f) 44) (.cells #[.bool live] 4)
  have HR := hid (h.step hB)
  have hl := hid h.lenx
  have hl' := hid h.leny
  have hn := h.hn
  have hmd := h.hmd
  obtain ⟨k0, k1, k2, kf⟩ := PR.cells3
  have HPR := hid PR; have HPX := hid PX; have HPZ := hid PZ; have HB := hid hB
  clear PR PX PZ hB h
  by_cases hg : MGood ws ls
  · have hc : mcheckC ws ls = 0 := if_pos hg
    have HG := hid hg
    go_enter Try.func68, Try.ntmps68
    go_wp2_with fail
    clear k0 k1 k2 kf
    refine (mcheck_any A n c B m d f ws ls _ HR.out).mono ?_
    rintro e w1 ⟨rfl, hb⟩
    rw [hc]
    have R1 := hid (HR.out.step hb)
    have PR := HPR.out.step hb
    have PX := hid (HPX.out.step hb)
    have PZ := hid (HPZ.out.step hb)
    have HB1 := hid (below_then HB.out hb)
    clear hb HR HPR HPX HPZ HB hc hg
    obtain ⟨k0, k1, k2, kf⟩ := PR.cells3
    obtain ⟨z0, z1, z2, zf⟩ := PZ.out.cells3
    have hN : Hid (mn < 1 ∨ fr < 0 ∨ (n : Int) ≤ fr ∨ (n : Int) - fr < mn → turnC ws ls fr mn live no = 2) := hid (fun hh => by unfold turnC; rw [if_neg (not_not_intro HG.out), hl.out, if_pos hh])
    by_cases c1 : mn < 1
    · have E := hid (hN.out (.inl c1))
      clear k0 k1 k2 kf hN
      go_wp2
      obtain ⟨q0, q1, q2, qf⟩ := (((PZ.out.setCell 0 (.slice none 0 0)).setCell 1 (.slice none 0 0)).setCell 2 (.bool false)).cells3
      rw [E.out]
      refine bodyPost_ret (v := .tuple #[mnil, .int .i64 2]) (by simp [results, Try.results68, go_sem, q0, q1, q2]) rfl ⟨rfl, ?_⟩
      exact ((HB1.out.setCell (by simp <;> omega) _).setCell (by simp <;> omega) _).setCell (by simp <;> omega) _
    by_cases c2 : fr < 0
    · have E := hid (hN.out (.inr (.inl c2)))
      clear k0 k1 k2 kf hN
      go_wp2
      obtain ⟨q0, q1, q2, qf⟩ := (((PZ.out.setCell 0 (.slice none 0 0)).setCell 1 (.slice none 0 0)).setCell 2 (.bool false)).cells3
      rw [E.out]
      refine bodyPost_ret (v := .tuple #[mnil, .int .i64 2]) (by simp [results, Try.results68, go_sem, q0, q1, q2]) rfl ⟨rfl, ?_⟩
      exact ((HB1.out.setCell (by simp <;> omega) _).setCell (by simp <;> omega) _).setCell (by simp <;> omega) _
    by_cases c3 : (n : Int) ≤ fr
    · have E := hid (hN.out (.inr (.inr (.inl c3))))
      clear hN
      go_wp2
      obtain ⟨q0, q1, q2, qf⟩ := (((PZ.out.setCell 0 (.slice none 0 0)).setCell 1 (.slice none 0 0)).setCell 2 (.bool false)).cells3
      rw [E.out]
      refine bodyPost_ret (v := .tuple #[mnil, .int .i64 2]) (by simp [results, Try.results68, go_sem, q0, q1, q2]) rfl ⟨rfl, ?_⟩
      exact ((HB1.out.setCell (by simp <;> omega) _).setCell (by simp <;> omega) _).setCell (by simp <;> omega) _
    by_cases c4 : (n : Int) - fr < mn
    · have E := hid (hN.out (.inr (.inr (.inr c4))))
      clear hN
      go_wp2
      obtain ⟨q0, q1, q2, qf⟩ := (((PZ.out.setCell 0 (.slice none 0 0)).setCell 1 (.slice none 0 0)).setCell 2 (.bool false)).cells3
      rw [E.out]
      refine bodyPost_ret (v := .tuple #[mnil, .int .i64 2]) (by simp [results, Try.results68, go_sem, q0, q1, q2]) rfl ⟨rfl, ?_⟩
      exact ((HB1.out.setCell (by simp <;> omega) _).setCell (by simp <;> omega) _).setCell (by simp <;> omega) _
    obtain ⟨fr, rfl⟩ := Int.eq_ofNat_of_zero_le (by omega : 0 ≤ fr)
    obtain ⟨mn, rfl⟩ := Int.eq_ofNat_of_zero_le (by omega : 0 ≤ mn)
    have hle : fr + mn ≤ n := by omega
    have hmn : m = n := by have := HG.out.1.2.2; have := hl.out; have := hl'.out; omega
    subst hmn
    obtain ⟨b, off, rfl, hb1, hb2, hc⟩ := R1.out.hy.row (by omega)
    have HS : Hid (Sl blv false w1 0 w1.heap.size (some ⟨b, off + fr, none⟩) mn ((ls.drop fr).take mn)) := hid (R1.out.hy.sub hle)
    have HC : Hid (∀ k, k < mn → ∀ W, Below w1.heap.size w1 W → Calls Try.prog 73 #[.int .i64 k, blv (((ls.drop fr).take mn)[k]?.getD false), .pointer (some ⟨w.heap.size + 1, 0, none⟩)] W fun e W' => e = .returned (.bool (((ls.drop fr).take mn)[k]?.getD false != live)) ∧ Below W.heap.size W W') :=
      hid (fun k hk W hW => turned1_any k _ _ _ live W (PX.out.step hW))
    have hE : Hid (turnC ws ls fr mn live no = if ¬ ∀ k, k < mn → (((ls.drop fr).take mn)[k]?.getD false != live) = true then no else 0) := hid (by
      unfold turnC
      rw [if_neg (not_not_intro HG.out), hl.out, if_neg (by omega), Int.toNat_natCast, Int.toNat_natCast])
    have hall : ¬ ∀ k, k < mn → (((ls.drop fr).take mn)[k]?.getD false != live) = true := fun hh => hbad (by rw [hE.out, if_neg (not_not_intro hh)])
    have E : Hid (turnC ws ls fr mn live no = no) := hid (by rw [hE.out, if_pos hall])
    have hDD := hid (decide_eq_false hall)
    clear hc hN hE hall hbad
    go_wp2_with fail
    clear k0 k1 k2 kf z0 z1 z2 zf
    refine (every_bool _ mn _ 0 ((ls.drop fr).take mn) 73 _ (fun k => (((ls.drop fr).take mn)[k]?.getD false != live)) _ HS.out (by omega) HC.out (enters_of Try.func73 (by kernel_rfl) rfl)).mono ?_
    rintro e w2 ⟨rfl, hb⟩
    rw [hDD.out]
    have PZ := hid (PZ.out.step hb)
    have HB1 := hid (below_then HB1.out hb)
    clear hb
    obtain ⟨z0, z1, z2, zf⟩ := PZ.out.cells3
    go_wp2
    obtain ⟨q0, q1, q2, qf⟩ := (((PZ.out.setCell 0 (.slice none 0 0)).setCell 1 (.slice none 0 0)).setCell 2 (.bool false)).cells3
    rw [E.out]
    refine bodyPost_ret (v := .tuple #[mnil, .int .i64 no]) (by simp [results, Try.results68, go_sem, q0, q1, q2]) rfl ⟨rfl, ?_⟩
    exact ((HB1.out.setCell (by simp <;> omega) _).setCell (by simp <;> omega) _).setCell (by simp <;> omega) _
  · have hc : mcheckC ws ls = 120 := if_neg hg
    have E : Hid (turnC ws ls fr mn live no = 120) := hid (if_pos hg)
    go_enter Try.func68, Try.ntmps68
    go_wp2_with fail
    clear k0 k1 k2 kf
    refine (mcheck_any A n c B m d f ws ls _ HR.out).mono ?_
    rintro e w1 ⟨rfl, hb⟩
    rw [hc]
    have PZ := hid (HPZ.out.step hb)
    obtain ⟨z0, z1, z2, zf⟩ := PZ.out.cells3
    have HB1 := hid (below_then HB.out hb)
    clear hb hc hg
    go_wp2
    obtain ⟨q0, q1, q2, qf⟩ := (((PZ.out.setCell 0 (.slice none 0 0)).setCell 1 (.slice none 0 0)).setCell 2 (.bool false)).cells3
    rw [E.out]
    refine bodyPost_ret (v := .tuple #[mnil, .int .i64 120]) (by simp [results, Try.results68, go_sem, q0, q1, q2]) rfl ⟨rfl, ?_⟩
    exact ((HB1.out.setCell (by simp <;> omega) _).setCell (by simp <;> omega) _).setCell (by simp <;> omega) _
end Go.Proofs.Ytnkaajkdjbdpaaa
