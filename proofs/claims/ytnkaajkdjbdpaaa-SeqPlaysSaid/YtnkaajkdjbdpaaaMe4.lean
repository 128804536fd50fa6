/- package memory: turned where it goes on. No condition but sizes. -/
import Derived.Test.YtnkaajkdjbdpaaaMe3
namespace Go.Proofs.Ytnkaajkdjbdpaaa
open Go.RowKit
def TurnPost (W : World) (n : Nat) (f : Bool) (ws : List Int) (ls : List Bool) (e : Ending) (W' : World) : Prop :=
  ∃ ga gb, e = .returned (.tuple #[mv (some ⟨ga, 0, none⟩) n n (some ⟨gb, 0, none⟩) n n f, .int .i64 0]) ∧ Mown W' W.heap.size (some ⟨ga, 0, none⟩) n n (some ⟨gb, 0, none⟩) n n ws ls ∧ Below W.heap.size W W'
/-- in the loop -/
structure TurnRel (W : World) (lo : Nat) (gl : Nat) (live : Bool) (go : Nat) (f : Bool) (gz : Nat) (ga gb n : Nat) (ws : List Int) (ls : List Bool) (holds : Int) (fr k : Nat) (wr : World) : Prop where
  oa : Ow u64v wr lo 27 (some ⟨ga, 0, none⟩) n n (setR ws fr holds k)
  ob : Ow blv wr lo 4 (some ⟨gb, 0, none⟩) n n (setR ls fr live k)
  pl : Blk wr gl 4 #[.bool live]
  po : Blk wr go 44 (mcs (some ⟨ga, 0, none⟩) n n (some ⟨gb, 0, none⟩) n n f)
  pz : Blk wr gz 44 (mcs none 0 0 none 0 0 false)
  be : Below lo W wr

set_option maxHeartbeats 4000000 in
theorem turned_ok (A : Option Addr) (n c : Nat) (B : Option Addr) (m d : Nat) (f : Bool) (fr mn : Nat) (live : Bool) (holds no : Int) (ws : List Int) (ls : List Bool) (w : World) (h : Mem w A n c B m d ws ls) (hG : MGood ws ls) (h1 : 1 ≤ mn) (h2 : fr + mn ≤ n) (hall : ∀ k, k < mn → (((ls.drop fr).take mn)[k]?.getD false != live) = true) :
    Calls Try.prog 68 (turnP A n c B m d f fr mn live holds no) w (TurnPost w n f (setR ws fr holds mn) (setR ls fr live mn)) := by
  obtain rfl : m = n := by have := hG.1.2.2; have := h.lenx; have := h.leny; omega
  have hB := below_then (below_then (below_box w (.cells (mcs A m c B m d f) 44)) (below_box _ (.cells #[.bool live] 4))) (below_box _ (.cells (mcs none 0 0 none 0 0 false) 44))
  have PR := ((Blk.new w 44 (mcs A m c B m d f)).step (below_box _ (.cells #[.bool live] 4))).step (below_box _ (.cells (mcs none 0 0 none 0 0 false) 44))
  have PX := (Blk.new2 w 4 #[.bool live] (.cells (mcs A m c B m d f) 44)).step (below_box _ (.cells (mcs none 0 0 none 0 0 false) 44))
  have PZ := Blk.new3 w 44 (mcs none 0 0 none 0 0 false) (.cells (mcs A m c B m d f) 44) (.cells #[.bool live] 4)
  have HR := hid (h.step hB)
  have hn := h.hn
  have hmd := h.hmd
  obtain ⟨k0, k1, k2, kf⟩ := PR.cells3
  have HPR := hid PR; have HPX := hid PX; have HPZ := hid PZ; have HB := hid hB
  clear PR PX PZ hB
  have hc : mcheckC ws ls = 0 := if_pos hG
  have HG := hid hG
  have hDD := hid (decide_eq_true hall)
  obtain ⟨b, off, hBe, _, _, _⟩ := h.hy.row (by omega)
  subst hBe
  clear h hall
  go_enter Try.func68, Try.ntmps68
  go_wp2_with fail
  clear k0 k1 k2 kf
  refine (mcheck_any A m c _ m d f ws ls _ HR.out).mono ?_
  rintro e w1 ⟨rfl, hb⟩
  rw [hc]
  have R1 := hid (HR.out.step hb)
  have PR := hid (HPR.out.step hb)
  have PX := hid (HPX.out.step hb)
  have PZ := hid (HPZ.out.step hb)
  have HB1 := hid (below_then HB.out hb)
  clear hb HR HPR HPX HPZ HB hc hG
  obtain ⟨k0, k1, k2, kf⟩ := PR.out.cells3
  have HS : Hid (Sl blv false w1 0 w1.heap.size (some ⟨b, off + fr, none⟩) mn ((ls.drop fr).take mn)) := hid (R1.out.hy.sub h2)
  have HC : Hid (∀ k, k < mn → ∀ W, Below w1.heap.size w1 W → Calls Try.prog 73 #[.int .i64 k, blv (((ls.drop fr).take mn)[k]?.getD false), .pointer (some ⟨w.heap.size + 1, 0, none⟩)] W fun e W' => e = .returned (.bool (((ls.drop fr).take mn)[k]?.getD false != live)) ∧ Below W.heap.size W W') :=
    hid (fun k hk W hW => turned1_any k _ _ _ live W (PX.out.step hW))
  go_wp2_with fail
  clear k0 k1 k2 kf
  refine (every_bool _ mn _ 0 ((ls.drop fr).take mn) 73 _ (fun k => (((ls.drop fr).take mn)[k]?.getD false != live)) _ HS.out (by omega) HC.out (enters_of Try.func73 (by kernel_rfl) rfl)).mono ?_
  rintro e w2 ⟨rfl, hb⟩
  rw [hDD.out]
  clear HS HC hDD
  have R2 := hid (R1.out.step hb)
  have PR2 := hid (PR.out.step hb)
  have PX2 := hid (PX.out.step hb)
  have PZ2 := hid (PZ.out.step hb)
  have HB2 := hid (below_then HB1.out hb)
  clear hb R1 PR PX PZ HB1
  obtain ⟨k0, k1, k2, kf⟩ := PR2.out.cells3
  go_wp2_with fail
  clear k0 k1 k2 kf
  refine (mown_any A m c _ m d f ws ls _ R2.out).mono ?_
  rintro e w3 ⟨ga, gb, rfl, ho, hb⟩
  have PX3 := hid ((PX2.out.step hb).step (below_box w3 (.cells (mcs (some ⟨ga, 0, none⟩) m m (some ⟨gb, 0, none⟩) m m f) 44)))
  have PZ3 := hid ((PZ2.out.step hb).step (below_box w3 (.cells (mcs (some ⟨ga, 0, none⟩) m m (some ⟨gb, 0, none⟩) m m f) 44)))
  have HB3 := hid (below_then (below_then HB2.out hb) (below_box w3 (.cells (mcs (some ⟨ga, 0, none⟩) m m (some ⟨gb, 0, none⟩) m m f) 44)))
  have HO := hid ((ho.step (below_box w3 (.cells (mcs (some ⟨ga, 0, none⟩) m m (some ⟨gb, 0, none⟩) m m f) 44))).mono (lo' := w.heap.size) (by have := HB2.out.size; omega))
  have PO := Blk.new w3 44 (mcs (some ⟨ga, 0, none⟩) m m (some ⟨gb, 0, none⟩) m m f)
  obtain ⟨k0, k1, k2, kf⟩ := PO.cells3
  have hap := ho.apart _ _ rfl rfl
  have hz2 : w.heap.size + 2 < w2.heap.size := by have := PZ2.out.lt; omega
  have hgo : ∀ x, (ga = x ∨ gb = x) → w2.heap.size ≤ x ∧ x < w3.heap.size := by
    rintro x (rfl | rfl)
    · obtain ⟨g, e, h1, h2, _⟩ := ho.oa.at_ 0 (k := 0) (by omega)
      obtain rfl : ga = g := by simpa using e
      exact ⟨h1, h2⟩
    · obtain ⟨g, e, h1, h2, _⟩ := ho.ob.at_ false (k := 0) (by omega)
      obtain rfl : gb = g := by simpa using e
      exact ⟨h1, h2⟩
  have HGO := hid (⟨hgo ga (.inl rfl), hgo gb (.inr rfl), hap, hz2⟩ : (w2.heap.size ≤ ga ∧ ga < w3.heap.size) ∧ (w2.heap.size ≤ gb ∧ gb < w3.heap.size) ∧ ga ≠ gb ∧ w.heap.size + 2 < w2.heap.size)
  have HPO := hid PO
  clear hb ho R2 PR2 PX2 PZ2 HB2 hap hz2 hgo PO
  go_wp2_with fail
  go_quiet (fail)
  clear k0 k1 k2 kf
  go_wp2_with fail
  go_loopw [84] (fun i wr => ∃ k : Nat, k ≤ mn ∧ i = .int .i64 k ∧ TurnRel w w.heap.size (w.heap.size + 1) live w3.heap.size f (w.heap.size + 1 + 1) ga gb m ws ls holds fr k wr) (fun i _ => mn - (intOf i).toNat)
  case atStart => exact ⟨0, Nat.zero_le _, rfl, ⟨HO.out.oa.drewN _, HO.out.ob.drewN _, PX3.out.drewN _, HPO.out.drewN _, PZ3.out.drewN _, below_drewN HB3.out _⟩⟩
  case round =>
    obtain ⟨k, hk, rfl, hr⟩ := hrel
    have HRr := hid hr
    obtain ⟨⟨g1, g2⟩, ⟨g3, g4⟩, g5, g6⟩ := HGO.out
    have HG2 := hid (⟨by omega, by omega, by omega, by omega, by omega, by omega, by omega, by omega⟩ : w.heap.size + 1 ≠ ga ∧ w.heap.size + 1 ≠ gb ∧ w.heap.size + 1 + 1 ≠ ga ∧ w.heap.size + 1 + 1 ≠ gb ∧ w3.heap.size ≠ ga ∧ w3.heap.size ≠ gb ∧ w.heap.size ≤ ga ∧ w.heap.size ≤ gb)
    by_cases hlt : k < mn
    · obtain ⟨ga', hq, _, _, a0, af⟩ := hr.oa.at_ 0 (k := fr + k) (by omega)
      obtain rfl : ga = ga' := by simpa using hq
      obtain ⟨gb', hq', _, _, b0, bf⟩ := hr.ob.at_ false (k := fr + k) (by omega)
      obtain rfl : gb = gb' := by simpa using hq'
      obtain ⟨l0, lf⟩ := hr.pl.cells1
      clear hr hq hq'
      obtain ⟨x, hX⟩ : ∃ x, x = u64v ((setR ws fr holds k)[fr + k]?.getD 0) := ⟨_, rfl⟩
      obtain ⟨y, hY⟩ : ∃ y, y = blv ((setR ls fr live k)[fr + k]?.getD false) := ⟨_, rfl⟩
      rw [← hX] at a0
      rw [← hY] at b0
      clear hX hY g1 g2 g3 g4 g6
      have g5' := Ne.symm g5
      obtain ⟨d1, d2, d3, d4, d5, d6, d7, d8⟩ := HG2.out
      have L1 := HRr.out.pl.far (p := ⟨ga, fr + k, none⟩) d1 (.int .u64 holds)
      have L2 := HRr.out.pl.far (p := ⟨gb, fr + k, none⟩) d2 (.bool live)
      obtain ⟨l1, lf1⟩ := L1.cells1
      obtain ⟨l2, lf2⟩ := L2.cells1
      have b1 : (wr.setCell ⟨ga, fr + k, none⟩ (.int .u64 holds)).cell? ⟨gb, fr + k, none⟩ = some y := by rw [World.cell?_setCell_other _ _ _ _ (by simp <;> omega)]; exact b0
      have a1 : (wr.setCell ⟨gb, fr + k, none⟩ (.bool live)).cell? ⟨ga, fr + k, none⟩ = some x := by rw [World.cell?_setCell_other _ _ _ _ (by simp <;> omega)]; exact a0
      clear L1 L2 d1 d2 d3 d4 d5 d6 d7 d8
      go_wp2_with fail
      go_region
      all_goals
        go_wp2
        go_roundw
        case measure => simp [intOf]; omega
        case rel =>
          obtain ⟨d1, d2, d3, d4, d5, d6, d7, d8⟩ := HG2.out
          refine ⟨k + 1, by omega, by go_num, ?_⟩
          first
            | exact ⟨((HRr.out.oa.stored (fr + k) holds).far (p := ⟨gb, fr + k, none⟩) g5 _).drewN _, ((HRr.out.ob.far (p := ⟨ga, fr + k, none⟩) g5' _).stored (fr + k) live).drewN _, ((HRr.out.pl.far d1 _).far d2 _).drewN _, ((HRr.out.po.far d5 _).far d6 _).drewN _, ((HRr.out.pz.far d3 _).far d4 _).drewN _, below_drewN ((HRr.out.be.setCell (p := ⟨ga, fr + k, none⟩) d7 _).setCell (p := ⟨gb, fr + k, none⟩) d8 _) _⟩
            | exact ⟨((HRr.out.oa.far (p := ⟨gb, fr + k, none⟩) g5 _).stored (fr + k) holds).drewN _, ((HRr.out.ob.stored (fr + k) live).far (p := ⟨ga, fr + k, none⟩) g5' _).drewN _, ((HRr.out.pl.far d2 _).far d1 _).drewN _, ((HRr.out.po.far d6 _).far d5 _).drewN _, ((HRr.out.pz.far d4 _).far d3 _).drewN _, below_drewN ((HRr.out.be.setCell (p := ⟨gb, fr + k, none⟩) d8 _).setCell (p := ⟨ga, fr + k, none⟩) d7 _) _⟩
    · obtain rfl : k = mn := by omega
      clear hr
      obtain ⟨d1, d2, d3, d4, d5, d6, d7, d8⟩ := HG2.out
      obtain ⟨o0, o1, o2, of⟩ := HRr.out.po.cells3
      obtain ⟨z0, z1, z2, zf⟩ := HRr.out.pz.cells3
      go_wp2
      obtain ⟨q0, q1, q2, qf⟩ := (((HRr.out.pz.setCell 0 (.slice (some ⟨ga, 0, none⟩) m m)).setCell 1 (.slice (some ⟨gb, 0, none⟩) m m)).setCell 2 (.bool f)).cells3
      refine bodyPost_ret (v := .tuple #[mv (some ⟨ga, 0, none⟩) m m (some ⟨gb, 0, none⟩) m m f, .int .i64 0]) (by simp [results, Try.results68, go_sem, q0, q1, q2]) rfl ⟨ga, gb, rfl, ⟨?_, ?_, fun a b h1 h2 => by simp at h1 h2; subst h1 h2; exact g5, hn, hn⟩, ?_⟩
      · exact (((HRr.out.oa.far d3.symm _).far d3.symm _).far d3.symm _)
      · exact (((HRr.out.ob.far d4.symm _).far d4.symm _).far d4.symm _)
      · exact (((HRr.out.be.setCell (by simp <;> omega) _).setCell (by simp <;> omega) _).setCell (by simp <;> omega) _)
end Go.Proofs.Ytnkaajkdjbdpaaa
