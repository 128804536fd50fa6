/- package reader: Run, Enter, Leave, New. No condition but sizes. -/
import Derived.Test.YtfipdoofgbjbjaaRd11
namespace Go.Proofs.Ytfipdoofgbjbjaa
open Go.RowKit Go.Shelf Go.Maps

theorem run_any (now : Int) (A : Option Addr) (n c : Nat) (B : Option Addr) (m d : Nat) (ns os : List Int) (L : Option Addr) (nl kc : Nat) (ls : List (Int × Bool)) (w : World) (h : Rds w A n c B m d ns os) (hL : Sm 2 encR (0, false) w 0 w.heap.size L nl ls) (hnl : nl ≤ 1000) :
    Calls Try.prog 85 #[rv now A n c B m d, .slice L nl kc] w (RunPost w (runF now ns os ls)) := by
  by_cases hg : Good now ns os
  · exact run_good now A n c B m d ns os L nl kc ls w h hL hnl hg
  · exact run_bad now A n c B m d ns os L nl kc ls w h hg
/-- what one step hands back: the error, the readers -/
def oneF (now : Int) (ns os : List Int) (x : Int × Bool) : Int × St := ((runF now ns os [x]).1, (runF now ns os [x]).2.2)
def OnePost (W : World) (r : Int × St) (e : Ending) (W' : World) : Prop :=
  ∃ A n c B m d, e = .returned (.tuple #[rv r.2.1 A n c B m d, .int .i64 r.1]) ∧ Rown W' W.heap.size A n c B m d r.2.2.1 r.2.2.2 ∧ Below W.heap.size W W'

set_option maxHeartbeats 2000000 in
theorem enter1_any (now : Int) (A : Option Addr) (n c : Nat) (B : Option Addr) (m d : Nat) (ns os : List Int) (cpu : Int) (w : World) (h : Rds w A n c B m d ns os) :
    Calls Try.prog 73 #[rv now A n c B m d, .int .i64 cpu] w (OnePost w (oneF now ns os (cpu, true))) := by
  have hbx := below_then (below_box w (.cells (rcs now A n c B m d) 24)) (below_box _ (.cells (rcs 0 none 0 0 none 0 0) 24))
  have hbx2 := below_then hbx (below_box _ (.cells #[.int .i64 cpu, .bool true] 133))
  have h0 := h.step hbx2
  have P := (Blk.new w 24 (rcs now A n c B m d)).step (below_box _ (.cells (rcs 0 none 0 0 none 0 0) 24))
  have P' := (Blk.new2 w 24 (rcs 0 none 0 0 none 0 0) (.cells (rcs now A n c B m d) 24)).step (below_box _ (.cells #[.int .i64 cpu, .bool true] 133))
  have HL := hid (Sm.one (sz := 2) (enc := encR) (d := ((0 : Int), false)) (w := ((w.alloc (.cells (rcs now A n c B m d) 24)).alloc (.cells (rcs 0 none 0 0 none 0 0) 24))) (e := 133) (cs := #[.int .i64 cpu, .bool true]) (g := w.heap.size + 1 + 1) (cpu, true) (by simp) (by intro j hj; match j, hj with | 0, _ => rfl | 1, _ => rfl))
  have HR := hid h0; have HBX := hid hbx2; have HP := hid P'
  obtain ⟨k0, k1, k2, kf⟩ := P.cells3
  clear h h0 hbx hbx2 P P'
  go_enter Try.func73, Try.ntmps73
  go_wp2_with fail
  clear k0 k1 k2 kf
  refine (run_any now A n c B m d ns os _ 1 1 [(cpu, true)] _ HR.out HL.out (by omega)).mono ?_
  rintro e w1 ⟨A', n', c', B', m', d', rfl, hown, hb⟩
  have hz := hb.size
  simp only [World.size_alloc] at hz
  have PZ := hid (HP.out.step hb)
  have HB1 := hid (below_then HBX.out hb)
  have HO := hid (hown.step (below_box w1 (.cells (rcs (oneF now ns os (cpu, true)).2.1 A' n' c' B' m' d') 24)))
  obtain ⟨code, hcode⟩ : ∃ code, code = (oneF now ns os (cpu, true)).1 := ⟨_, rfl⟩
  obtain ⟨nw, hnw⟩ : ∃ nw, nw = (oneF now ns os (cpu, true)).2.1 := ⟨_, rfl⟩
  have HC := hid hcode; have HN := hid hnw
  rw [show (runF now ns os [(cpu, true)]).1 = code from hcode.symm, show (runF now ns os [(cpu, true)]).2.2.1 = nw from hnw.symm]
  rw [← hnw] at HO
  clear hcode hnw hown
  have PZ1 := PZ.out.step (below_box w1 (.cells (rcs nw A' n' c' B' m' d') 24))
  have PN := Blk.new w1 24 (rcs nw A' n' c' B' m' d')
  obtain ⟨r0, r1, r2, rf⟩ := PZ1.cells3
  obtain ⟨s0, s1, s2, sf⟩ := PN.cells3
  have HZ1 := hid PZ1; have HZ := hid hz
  clear PZ1 PN hb hz
  go_wp2
  have q := ((HZ1.out.setCell 0 (.int .i64 nw)).setCell 1 (.slice A' n' c')).setCell 2 (.slice B' m' d')
  obtain ⟨q0, q1, q2, qf⟩ := q.cells3
  have hz := HZ.out
  refine bodyPost_ret (v := .tuple #[rv nw A' n' c' B' m' d', .int .i64 code]) (by simp [results, Try.results73, go_sem, q0, q1, q2]) rfl ⟨A', n', c', B', m', d', by rw [← HC.out, ← HN.out], ?_, ?_⟩
  · have o := HO.out
    exact ⟨(((o.oa.setCell (p := ⟨w.heap.size + 1, 0, none⟩) (by simp) _).setCell (p := ⟨w.heap.size + 1, 1, none⟩) (by simp) _).setCell (p := ⟨w.heap.size + 1, 2, none⟩) (by simp) _).mono (by simp; omega), (((o.ob.setCell (p := ⟨w.heap.size + 1, 0, none⟩) (by simp) _).setCell (p := ⟨w.heap.size + 1, 1, none⟩) (by simp) _).setCell (p := ⟨w.heap.size + 1, 2, none⟩) (by simp) _).mono (by simp; omega), o.apart, o.hn, o.hm⟩
  · exact (((below_then HB1.out (below_box w1 _)).setCell (by simp) _).setCell (by simp) _).setCell (by simp) _

set_option maxHeartbeats 2000000 in
theorem leave1_any (now : Int) (A : Option Addr) (n c : Nat) (B : Option Addr) (m d : Nat) (ns os : List Int) (cpu : Int) (w : World) (h : Rds w A n c B m d ns os) :
    Calls Try.prog 74 #[rv now A n c B m d, .int .i64 cpu] w (OnePost w (oneF now ns os (cpu, false))) := by
  have hbx := below_then (below_box w (.cells (rcs now A n c B m d) 24)) (below_box _ (.cells (rcs 0 none 0 0 none 0 0) 24))
  have hbx2 := below_then hbx (below_box _ (.cells #[.int .i64 cpu, .bool false] 133))
  have h0 := h.step hbx2
  have P := (Blk.new w 24 (rcs now A n c B m d)).step (below_box _ (.cells (rcs 0 none 0 0 none 0 0) 24))
  have P' := (Blk.new2 w 24 (rcs 0 none 0 0 none 0 0) (.cells (rcs now A n c B m d) 24)).step (below_box _ (.cells #[.int .i64 cpu, .bool false] 133))
  have HL := hid (Sm.one (sz := 2) (enc := encR) (d := ((0 : Int), false)) (w := ((w.alloc (.cells (rcs now A n c B m d) 24)).alloc (.cells (rcs 0 none 0 0 none 0 0) 24))) (e := 133) (cs := #[.int .i64 cpu, .bool false]) (g := w.heap.size + 1 + 1) (cpu, false) (by simp) (by intro j hj; match j, hj with | 0, _ => rfl | 1, _ => rfl))
  have HR := hid h0; have HBX := hid hbx2; have HP := hid P'
  obtain ⟨k0, k1, k2, kf⟩ := P.cells3
  clear h h0 hbx hbx2 P P'
  go_enter Try.func74, Try.ntmps74
  go_wp2_with fail
  clear k0 k1 k2 kf
  refine (run_any now A n c B m d ns os _ 1 1 [(cpu, false)] _ HR.out HL.out (by omega)).mono ?_
  rintro e w1 ⟨A', n', c', B', m', d', rfl, hown, hb⟩
  have hz := hb.size
  simp only [World.size_alloc] at hz
  have PZ := hid (HP.out.step hb)
  have HB1 := hid (below_then HBX.out hb)
  have HO := hid (hown.step (below_box w1 (.cells (rcs (oneF now ns os (cpu, false)).2.1 A' n' c' B' m' d') 24)))
  obtain ⟨code, hcode⟩ : ∃ code, code = (oneF now ns os (cpu, false)).1 := ⟨_, rfl⟩
  obtain ⟨nw, hnw⟩ : ∃ nw, nw = (oneF now ns os (cpu, false)).2.1 := ⟨_, rfl⟩
  have HC := hid hcode; have HN := hid hnw
  rw [show (runF now ns os [(cpu, false)]).1 = code from hcode.symm, show (runF now ns os [(cpu, false)]).2.2.1 = nw from hnw.symm]
  rw [← hnw] at HO
  clear hcode hnw hown
  have PZ1 := PZ.out.step (below_box w1 (.cells (rcs nw A' n' c' B' m' d') 24))
  have PN := Blk.new w1 24 (rcs nw A' n' c' B' m' d')
  obtain ⟨r0, r1, r2, rf⟩ := PZ1.cells3
  obtain ⟨s0, s1, s2, sf⟩ := PN.cells3
  have HZ1 := hid PZ1; have HZ := hid hz
  clear PZ1 PN hb hz
  go_wp2
  have q := ((HZ1.out.setCell 0 (.int .i64 nw)).setCell 1 (.slice A' n' c')).setCell 2 (.slice B' m' d')
  obtain ⟨q0, q1, q2, qf⟩ := q.cells3
  have hz := HZ.out
  refine bodyPost_ret (v := .tuple #[rv nw A' n' c' B' m' d', .int .i64 code]) (by simp [results, Try.results74, go_sem, q0, q1, q2]) rfl ⟨A', n', c', B', m', d', by rw [← HC.out, ← HN.out], ?_, ?_⟩
  · have o := HO.out
    exact ⟨(((o.oa.setCell (p := ⟨w.heap.size + 1, 0, none⟩) (by simp) _).setCell (p := ⟨w.heap.size + 1, 1, none⟩) (by simp) _).setCell (p := ⟨w.heap.size + 1, 2, none⟩) (by simp) _).mono (by simp; omega), (((o.ob.setCell (p := ⟨w.heap.size + 1, 0, none⟩) (by simp) _).setCell (p := ⟨w.heap.size + 1, 1, none⟩) (by simp) _).setCell (p := ⟨w.heap.size + 1, 2, none⟩) (by simp) _).mono (by simp; omega), o.apart, o.hn, o.hm⟩
  · exact (((below_then HB1.out (below_box w1 _)).setCell (by simp) _).setCell (by simp) _).setCell (by simp) _

end Go.Proofs.Ytfipdoofgbjbjaa
