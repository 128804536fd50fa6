/- package memory: Step where it errs, and where it faults. No condition but sizes. -/
import Derived.Test.YtnkaajkdjbdpaaaMe6
namespace Go.Proofs.Ytnkaajkdjbdpaaa
open Go.RowKit
abbrev Acc := Int × Int × Int × Int
@[reducible] def gv (x : Int) (y : Bool) : Value := .agg #[.int .u64 x, .bool y]
def goodAt (s : MSt) (i : Int) : Bool := decide (0 ≤ i ∧ i < s.1.length) && s.2.1[i.toNat]?.getD false
/-- a memory behind an access of a kind, and what it comes to -/
def stepM (s : MSt) (a : Acc) : MSt × (Int × Bool) :=
  if goodAt s a.2.1 = false then ((s.1, s.2.1, true), (0, false))
  else if a.1 = 1 then (s, (s.1[a.2.1.toNat]?.getD 0, true))
  else if a.1 = 3 ∧ s.1[a.2.1.toNat]?.getD 0 ≠ a.2.2.1 then (s, (s.1[a.2.1.toNat]?.getD 0, false))
  else ((s.1.set a.2.1.toNat a.2.2.2, s.2.1, s.2.2), (s.1[a.2.1.toNat]?.getD 0, true))
def accF (s : MSt) (a : Acc) : Int × MSt × (Int × Bool) :=
  if ¬ MGood s.1 s.2.1 then (120, ([], [], false), (0, false)) else if a.1 < 1 ∨ 3 < a.1 then (121, ([], [], false), (0, false)) else (0, stepM s a)
def MSPost (W : World) (r : Int × MSt × (Int × Bool)) (e : Ending) (W' : World) : Prop :=
  ∃ A n c B m d, e = .returned (.tuple #[mv A n c B m d r.2.1.2.2, gv r.2.2.1 r.2.2.2, .int .i64 r.1]) ∧ Mown W' W.heap.size A n c B m d r.2.1.1 r.2.1.2.1 ∧ Below W.heap.size W W'
section
variable (A : Option Addr) (n c : Nat) (B : Option Addr) (m d : Nat) (f : Bool) (kind at_ old new : Int) (ws : List Int) (ls : List Bool) (w : World)
set_option maxHeartbeats 4000000 in
theorem mstep_bad (h : Mem w A n c B m d ws ls) (hbad : ¬ MGood ws ls ∨ kind < 1 ∨ 3 < kind) :
    Calls Try.prog 77 #[mv A n c B m d f, av kind at_ old new] w (MSPost w (accF (ws, ls, f) (kind, at_, old, new))) := by
  have hB := below_then (below_then (below_then (below_box w (.cells (mcs A n c B m d f) 44)) (below_box _ (.cells (acs kind at_ old new) 116))) (below_box _ (.cells (mcs none 0 0 none 0 0 false) 44))) (below_box _ (.cells #[.int .u64 0, .bool false] 112))
  have PR := hid ((((Blk.new w 44 (mcs A n c B m d f)).step (below_box _ (.cells (acs kind at_ old new) 116))).step (below_box _ (.cells (mcs none 0 0 none 0 0 false) 44))).step (below_box _ (.cells #[.int .u64 0, .bool false] 112)))
  have PX := hid (((Blk.new2 w 116 (acs kind at_ old new) (.cells (mcs A n c B m d f) 44)).step (below_box _ (.cells (mcs none 0 0 none 0 0 false) 44))).step (below_box _ (.cells #[.int .u64 0, .bool false] 112)))
  have PZ := hid ((Blk.new3 w 44 (mcs none 0 0 none 0 0 false) (.cells (mcs A n c B m d f) 44) (.cells (acs kind at_ old new) 116)).step (below_box _ (.cells #[.int .u64 0, .bool false] 112)))
  have PG := hid (Blk.new4 w 112 #[.int .u64 0, .bool false] (.cells (mcs A n c B m d f) 44) (.cells (acs kind at_ old new) 116) (.cells (mcs none 0 0 none 0 0 false) 44))
  have HR := hid (h.step hB)
  have HB := hid hB
  have hn := h.hn; have hl := hid h.lenx; have hl' := hid h.leny
  obtain ⟨k0, k1, k2, kf⟩ := PR.out.cells3
  clear hB h
  go_enter Try.func77, Try.ntmps77
  go_wp2_with fail
  clear k0 k1 k2 kf
  refine (mcheck_any A n c B m d f ws ls _ HR.out).mono ?_
  rintro e w1 ⟨rfl, hb⟩
  replace PR := hid (PR.out.step hb); replace PX := hid (PX.out.step hb); replace PZ := hid (PZ.out.step hb); replace PG := hid (PG.out.step hb); replace HR := hid (HR.out.step hb)
  replace HB := hid (below_then HB.out hb)
  clear hb
  by_cases hg : MGood ws ls
  · have E : Hid (accF (ws, ls, f) (kind, at_, old, new) = (121, ([], [], false), (0, false))) := hid (by
      unfold accF; rw [if_neg (not_not_intro hg), if_pos (by rcases hbad with h | h | h; exact absurd hg h; exact .inl h; exact .inr h)])
    rw [show mcheckC ws ls = 0 from if_pos hg]
    obtain ⟨r0, r1, r2, r3, rf⟩ := PX.out.cells4
    obtain ⟨z0, z1, z2, zf⟩ := PZ.out.cells3
    obtain ⟨u0, u1, uf⟩ := PG.out.cells2
    by_cases c1 : kind < 1
    · clear hg hbad
      go_wp2
      obtain ⟨q0, q1, q2, qf⟩ := (((((PZ.out.setCell 0 (.slice none 0 0)).setCell 1 (.slice none 0 0)).setCell 2 (.bool false)).far (p := ⟨w.heap.size + 1 + 1 + 1, 0, none⟩) (by simp) (.int .u64 0)).far (p := ⟨w.heap.size + 1 + 1 + 1, 1, none⟩) (by simp) (.bool false)).cells3
      obtain ⟨t0, t1, tf⟩ := (((((PG.out.far (p := ⟨w.heap.size + 1 + 1, 0, none⟩) (by simp) (.slice none 0 0)).far (p := ⟨w.heap.size + 1 + 1, 1, none⟩) (by simp) (.slice none 0 0)).far (p := ⟨w.heap.size + 1 + 1, 2, none⟩) (by simp) (.bool false)).setCell 0 (.int .u64 0)).setCell 1 (.bool false)).cells2
      refine bodyPost_ret (v := .tuple #[mnil, gv 0 false, .int .i64 121]) (by simp [results, Try.results77, go_sem, q0, q1, q2, t0, t1]) rfl ?_
      rw [E.out]
      refine ⟨none, 0, 0, none, 0, 0, rfl, Mown.none _ _, ?_⟩
      exact ((((HB.out.setCell (by simp <;> omega) _).setCell (by simp <;> omega) _).setCell (by simp <;> omega) _).setCell (by simp <;> omega) _).setCell (by simp <;> omega) _
    · have c2 : 3 < kind := by rcases hbad with h | h | h <;> first | exact absurd hg h | omega
      clear hg hbad
      go_wp2
      obtain ⟨q0, q1, q2, qf⟩ := (((((PZ.out.setCell 0 (.slice none 0 0)).setCell 1 (.slice none 0 0)).setCell 2 (.bool false)).far (p := ⟨w.heap.size + 1 + 1 + 1, 0, none⟩) (by simp) (.int .u64 0)).far (p := ⟨w.heap.size + 1 + 1 + 1, 1, none⟩) (by simp) (.bool false)).cells3
      obtain ⟨t0, t1, tf⟩ := (((((PG.out.far (p := ⟨w.heap.size + 1 + 1, 0, none⟩) (by simp) (.slice none 0 0)).far (p := ⟨w.heap.size + 1 + 1, 1, none⟩) (by simp) (.slice none 0 0)).far (p := ⟨w.heap.size + 1 + 1, 2, none⟩) (by simp) (.bool false)).setCell 0 (.int .u64 0)).setCell 1 (.bool false)).cells2
      refine bodyPost_ret (v := .tuple #[mnil, gv 0 false, .int .i64 121]) (by simp [results, Try.results77, go_sem, q0, q1, q2, t0, t1]) rfl ?_
      rw [E.out]
      refine ⟨none, 0, 0, none, 0, 0, rfl, Mown.none _ _, ?_⟩
      exact ((((HB.out.setCell (by simp <;> omega) _).setCell (by simp <;> omega) _).setCell (by simp <;> omega) _).setCell (by simp <;> omega) _).setCell (by simp <;> omega) _
  · have E : Hid (accF (ws, ls, f) (kind, at_, old, new) = (120, ([], [], false), (0, false))) := hid (if_pos hg)
    rw [show mcheckC ws ls = 120 from if_neg hg]
    obtain ⟨z0, z1, z2, zf⟩ := PZ.out.cells3
    obtain ⟨u0, u1, uf⟩ := PG.out.cells2
    clear hg hbad
    go_wp2
    obtain ⟨q0, q1, q2, qf⟩ := (((((PZ.out.setCell 0 (.slice none 0 0)).setCell 1 (.slice none 0 0)).setCell 2 (.bool false)).far (p := ⟨w.heap.size + 1 + 1 + 1, 0, none⟩) (by simp) (.int .u64 0)).far (p := ⟨w.heap.size + 1 + 1 + 1, 1, none⟩) (by simp) (.bool false)).cells3
    obtain ⟨t0, t1, tf⟩ := (((((PG.out.far (p := ⟨w.heap.size + 1 + 1, 0, none⟩) (by simp) (.slice none 0 0)).far (p := ⟨w.heap.size + 1 + 1, 1, none⟩) (by simp) (.slice none 0 0)).far (p := ⟨w.heap.size + 1 + 1, 2, none⟩) (by simp) (.bool false)).setCell 0 (.int .u64 0)).setCell 1 (.bool false)).cells2
    refine bodyPost_ret (v := .tuple #[mnil, gv 0 false, .int .i64 120]) (by simp [results, Try.results77, go_sem, q0, q1, q2, t0, t1]) rfl ?_
    rw [E.out]
    refine ⟨none, 0, 0, none, 0, 0, rfl, Mown.none _ _, ?_⟩
    exact ((((HB.out.setCell (by simp <;> omega) _).setCell (by simp <;> omega) _).setCell (by simp <;> omega) _).setCell (by simp <;> omega) _).setCell (by simp <;> omega) _
set_option maxHeartbeats 4000000 in
theorem mstep_fault (h : Mem w A n c B m d ws ls) (hg : MGood ws ls) (h1 : 1 ≤ kind) (h3 : kind ≤ 3) (hbad : goodAt (ws, ls, f) at_ = false) :
    Calls Try.prog 77 #[mv A n c B m d f, av kind at_ old new] w (MSPost w (accF (ws, ls, f) (kind, at_, old, new))) := by
  have hB := below_then (below_then (below_then (below_box w (.cells (mcs A n c B m d f) 44)) (below_box _ (.cells (acs kind at_ old new) 116))) (below_box _ (.cells (mcs none 0 0 none 0 0 false) 44))) (below_box _ (.cells #[.int .u64 0, .bool false] 112))
  have PR := hid ((((Blk.new w 44 (mcs A n c B m d f)).step (below_box _ (.cells (acs kind at_ old new) 116))).step (below_box _ (.cells (mcs none 0 0 none 0 0 false) 44))).step (below_box _ (.cells #[.int .u64 0, .bool false] 112)))
  have PX := hid (((Blk.new2 w 116 (acs kind at_ old new) (.cells (mcs A n c B m d f) 44)).step (below_box _ (.cells (mcs none 0 0 none 0 0 false) 44))).step (below_box _ (.cells #[.int .u64 0, .bool false] 112)))
  have PZ := hid ((Blk.new3 w 44 (mcs none 0 0 none 0 0 false) (.cells (mcs A n c B m d f) 44) (.cells (acs kind at_ old new) 116)).step (below_box _ (.cells #[.int .u64 0, .bool false] 112)))
  have PG := hid (Blk.new4 w 112 #[.int .u64 0, .bool false] (.cells (mcs A n c B m d f) 44) (.cells (acs kind at_ old new) 116) (.cells (mcs none 0 0 none 0 0 false) 44))
  have HR := hid (h.step hB)
  have HB := hid hB
  have hn := h.hn; have hl := hid h.lenx; have hl' := hid h.leny
  obtain ⟨k0, k1, k2, kf⟩ := PR.out.cells3
  clear hB h
  go_enter Try.func77, Try.ntmps77
  go_wp2_with fail
  clear k0 k1 k2 kf
  refine (mcheck_any A n c B m d f ws ls _ HR.out).mono ?_
  rintro e w1 ⟨rfl, hb⟩
  replace PR := hid (PR.out.step hb); replace PX := hid (PX.out.step hb); replace PZ := hid (PZ.out.step hb); replace PG := hid (PG.out.step hb); replace HR := hid (HR.out.step hb)
  replace HB := hid (below_then HB.out hb)
  clear hb
  have E : Hid (accF (ws, ls, f) (kind, at_, old, new) = (0, ((ws, ls, true), (0, false)))) := hid (by
    unfold accF; rw [if_neg (not_not_intro hg), if_neg (show ¬(kind < 1 ∨ 3 < kind) by omega)]; unfold stepM; rw [if_pos hbad])
  rw [show mcheckC ws ls = 0 from if_pos hg]
  obtain rfl : m = n := by have := hg.1.2.2; have := hl.out; have := hl'.out; omega
  have hn1 : 1 ≤ m := by have := hg.1.1; have := hl.out; omega
  obtain ⟨k0, k1, k2, kf⟩ := PR.out.cells3
  obtain ⟨r0, r1, r2, r3, rf⟩ := PX.out.cells4
  have hB2 := hid hbad
  have h1' : ¬ kind < 1 := by omega
  have h3' : ¬ 3 < kind := by omega
  clear hg hbad
  go_wp2_with fail
  clear k0 k1 k2 kf r0 r1 r2 r3 rf
  refine (mown_any A m c B m d f ws ls _ HR.out).mono ?_
  rintro e w2 ⟨ga, gb, rfl, ho, hb⟩
  have hbo := below_then hb (below_box w2 (.cells (mcs (some ⟨ga, 0, none⟩) m m (some ⟨gb, 0, none⟩) m m f) 44))
  have hz4 : w.heap.size + 3 < w1.heap.size := by have := PG.out.lt; omega
  have hap := ho.apart _ _ rfl rfl
  obtain ⟨g, hq, hg1, hg2, _⟩ := ho.oa.at_ 0 (k := 0) (by omega)
  obtain rfl : ga = g := by simpa using hq
  obtain ⟨g', hq', hg3, hg4, _⟩ := ho.ob.at_ false (k := 0) (by omega)
  obtain rfl : gb = g' := by simpa using hq'
  have HGO := hid (⟨⟨hg1, hg2⟩, ⟨hg3, hg4⟩, hap, hz4⟩ : (w1.heap.size ≤ ga ∧ ga < w2.heap.size) ∧ (w1.heap.size ≤ gb ∧ gb < w2.heap.size) ∧ ga ≠ gb ∧ w.heap.size + 3 < w1.heap.size)
  clear hq hq'
  have PZ2 := hid (PZ.out.step hb); have PG2 := hid (PG.out.step hb); have HB2 := hid (below_then HB.out hb); have HO2 := hid (ho.mono (lo' := w.heap.size + 4) (by omega))
  replace HB := hid (below_then HB.out hbo)
  replace PX := hid (PX.out.step hbo); replace PZ := hid (PZ.out.step hbo); replace PG := hid (PG.out.step hbo)
  have HO := hid ((ho.step (below_box w2 (.cells (mcs (some ⟨ga, 0, none⟩) m m (some ⟨gb, 0, none⟩) m m f) 44))).mono (lo' := w.heap.size + 4) (by omega))
  have HPO := hid (Blk.new w2 44 (mcs (some ⟨ga, 0, none⟩) m m (some ⟨gb, 0, none⟩) m m f))
  have hz5 := hid (show w.heap.size + 3 < w2.heap.size by have := hb.size; omega)
  clear hb ho PR HR hbo hap hz4 hg1 hg2 hg3 hg4
  obtain ⟨b0, b1, b2, bf⟩ := HPO.out.cells3
  obtain ⟨r0, r1, r2, r3, rf⟩ := PX.out.cells4
  obtain ⟨z0, z1, z2, zf⟩ := PZ.out.cells3
  obtain ⟨u0, u1, uf⟩ := PG.out.cells2
  have PZt := hid (PZ2.out.step (below_box w2 (.cells (mcs (some ⟨ga, 0, none⟩) m m (some ⟨gb, 0, none⟩) m m true) 44)))
  have PGt := hid (PG2.out.step (below_box w2 (.cells (mcs (some ⟨ga, 0, none⟩) m m (some ⟨gb, 0, none⟩) m m true) 44)))
  have HBt := hid (below_then HB2.out (below_box w2 (.cells (mcs (some ⟨ga, 0, none⟩) m m (some ⟨gb, 0, none⟩) m m true) 44)))
  have HOt := hid (HO2.out.step (below_box w2 (.cells (mcs (some ⟨ga, 0, none⟩) m m (some ⟨gb, 0, none⟩) m m true) 44)))
  obtain ⟨y0, y1, y2, yf⟩ := PZt.out.cells3
  obtain ⟨v0, v1, vf⟩ := PGt.out.cells2
  clear z0 z1 z2 zf u0 u1 uf
  by_cases c1 : at_ < 0
  · go_wp2
    obtain ⟨q0, q1, q2, qf⟩ := ((((((PZt.out).setCell 0 (.slice (some ⟨ga, 0, none⟩) m m)).setCell 1 (.slice (some ⟨gb, 0, none⟩) m m)).setCell 2 (.bool true)).far (p := ⟨w.heap.size + 1 + 1 + 1, 0, none⟩) (by simp) (.int .u64 0)).far (p := ⟨w.heap.size + 1 + 1 + 1, 1, none⟩) (by simp) (.bool false)).cells3
    obtain ⟨t0, t1, tf⟩ := ((((((PGt.out).far (p := ⟨w.heap.size + 1 + 1, 0, none⟩) (by simp) (.slice (some ⟨ga, 0, none⟩) m m)).far (p := ⟨w.heap.size + 1 + 1, 1, none⟩) (by simp) (.slice (some ⟨gb, 0, none⟩) m m)).far (p := ⟨w.heap.size + 1 + 1, 2, none⟩) (by simp) (.bool true)).setCell 0 (.int .u64 0)).setCell 1 (.bool false)).cells2
    refine bodyPost_ret (v := .tuple #[mv (some ⟨ga, 0, none⟩) m m (some ⟨gb, 0, none⟩) m m true, gv 0 false, .int .i64 0]) (by simp [results, Try.results77, go_sem, q0, q1, q2, t0, t1]) rfl ?_
    rw [E.out]
    refine ⟨_, _, _, _, _, _, rfl, ?_, ?_⟩
    · exact ((((((HOt.out).setCell (by simp <;> omega) _).setCell (by simp <;> omega) _).setCell (by simp <;> omega) _).setCell (by simp <;> omega) _).setCell (by simp <;> omega) _).mono (by omega)
    · exact ((((((HBt.out).setCell (by simp <;> omega) _).setCell (by simp <;> omega) _).setCell (by simp <;> omega) _).setCell (by simp <;> omega) _).setCell (by simp <;> omega) _)
  by_cases c2 : (m : Int) ≤ at_
  · go_wp2
    obtain ⟨q0, q1, q2, qf⟩ := ((((((PZt.out).setCell 0 (.slice (some ⟨ga, 0, none⟩) m m)).setCell 1 (.slice (some ⟨gb, 0, none⟩) m m)).setCell 2 (.bool true)).far (p := ⟨w.heap.size + 1 + 1 + 1, 0, none⟩) (by simp) (.int .u64 0)).far (p := ⟨w.heap.size + 1 + 1 + 1, 1, none⟩) (by simp) (.bool false)).cells3
    obtain ⟨t0, t1, tf⟩ := ((((((PGt.out).far (p := ⟨w.heap.size + 1 + 1, 0, none⟩) (by simp) (.slice (some ⟨ga, 0, none⟩) m m)).far (p := ⟨w.heap.size + 1 + 1, 1, none⟩) (by simp) (.slice (some ⟨gb, 0, none⟩) m m)).far (p := ⟨w.heap.size + 1 + 1, 2, none⟩) (by simp) (.bool true)).setCell 0 (.int .u64 0)).setCell 1 (.bool false)).cells2
    refine bodyPost_ret (v := .tuple #[mv (some ⟨ga, 0, none⟩) m m (some ⟨gb, 0, none⟩) m m true, gv 0 false, .int .i64 0]) (by simp [results, Try.results77, go_sem, q0, q1, q2, t0, t1]) rfl ?_
    rw [E.out]
    refine ⟨_, _, _, _, _, _, rfl, ?_, ?_⟩
    · exact ((((((HOt.out).setCell (by simp <;> omega) _).setCell (by simp <;> omega) _).setCell (by simp <;> omega) _).setCell (by simp <;> omega) _).setCell (by simp <;> omega) _).mono (by omega)
    · exact ((((((HBt.out).setCell (by simp <;> omega) _).setCell (by simp <;> omega) _).setCell (by simp <;> omega) _).setCell (by simp <;> omega) _).setCell (by simp <;> omega) _)
  obtain ⟨k, rfl⟩ := Int.eq_ofNat_of_zero_le (by omega : 0 ≤ at_)
  have hk : k < m := by omega
  have hlk : ls[k]?.getD false = false := by
    have := hB2.out
    simp only [goodAt, hl.out, Int.toNat_natCast] at this
    simpa [hk] using this
  obtain ⟨g, hq, _, _, l0, lf⟩ := HO.out.ob.at_ false hk
  obtain rfl : gb = g := by simpa using hq
  rw [hlk] at l0
  clear hlk hq
  go_wp2
  obtain ⟨q0, q1, q2, qf⟩ := ((((((PZt.out).setCell 0 (.slice (some ⟨ga, 0, none⟩) m m)).setCell 1 (.slice (some ⟨gb, 0, none⟩) m m)).setCell 2 (.bool true)).far (p := ⟨w.heap.size + 1 + 1 + 1, 0, none⟩) (by simp) (.int .u64 0)).far (p := ⟨w.heap.size + 1 + 1 + 1, 1, none⟩) (by simp) (.bool false)).cells3
  obtain ⟨t0, t1, tf⟩ := ((((((PGt.out).far (p := ⟨w.heap.size + 1 + 1, 0, none⟩) (by simp) (.slice (some ⟨ga, 0, none⟩) m m)).far (p := ⟨w.heap.size + 1 + 1, 1, none⟩) (by simp) (.slice (some ⟨gb, 0, none⟩) m m)).far (p := ⟨w.heap.size + 1 + 1, 2, none⟩) (by simp) (.bool true)).setCell 0 (.int .u64 0)).setCell 1 (.bool false)).cells2
  refine bodyPost_ret (v := .tuple #[mv (some ⟨ga, 0, none⟩) m m (some ⟨gb, 0, none⟩) m m true, gv 0 false, .int .i64 0]) (by simp [results, Try.results77, go_sem, q0, q1, q2, t0, t1]) rfl ?_
  rw [E.out]
  refine ⟨_, _, _, _, _, _, rfl, ?_, ?_⟩
  · exact ((((((HOt.out).setCell (by simp <;> omega) _).setCell (by simp <;> omega) _).setCell (by simp <;> omega) _).setCell (by simp <;> omega) _).setCell (by simp <;> omega) _).mono (by omega)
  · exact ((((((HBt.out).setCell (by simp <;> omega) _).setCell (by simp <;> omega) _).setCell (by simp <;> omega) _).setCell (by simp <;> omega) _).setCell (by simp <;> omega) _)
end
end Go.Proofs.Ytnkaajkdjbdpaaa
