/- afterglowref11: Step, where it goes on. No condition but sizes, and that rows hold numbers up to 8. -/
import Derived.Test.YtannechjcdgeeaaRd15
namespace Go.Proofs.Ytannechjcdgeeaa
open Go.RowKit Go.Shelf Go.Maps

set_option maxRecDepth 10000 in
set_option maxHeartbeats 16000000 in
theorem rstep_ok_t (now : Int) (A : Option Addr) (n c : Nat) (B : Option Addr) (d : Nat) (ns os : List Int) (k : Nat) (w : World) (h : Rds w A n c B n d ns os) (hk : k < n) (hn0 : 0 ≤ now) (hn1 : now < 2147483647) (h8 : 0 ≤ ns[k]?.getD 0 ∧ ns[k]?.getD 0 ≤ 8) (hok : ns[k]?.getD 0 ≠ 8) :
    Calls Try.prog 15 #[rv now A n c B n d, rdv k true] w (OnePost w (0, (now + 1, stepNs ns k true, stepOs now ns os k true))) := by
  obtain ⟨i0, hi0, hz00, hz01, hz02⟩ := info_parts info_int
  have hB := below_then (below_then (below_box w (.cells (rcs now A n c B n d) 24)) (below_box _ (.cells #[.int .i64 k, .bool true] 32))) (below_box _ (.cells (rcs 0 none 0 0 none 0 0) 24))
  have PR := ((Blk.new w 24 (rcs now A n c B n d)).step (below_box _ (.cells #[.int .i64 k, .bool true] 32))).step (below_box _ (.cells (rcs 0 none 0 0 none 0 0) 24))
  have PX := (Blk.new2 w 32 #[.int .i64 k, .bool true] (.cells (rcs now A n c B n d) 24)).step (below_box _ (.cells (rcs 0 none 0 0 none 0 0) 24))
  have PZ := Blk.new3 w 24 (rcs 0 none 0 0 none 0 0) (.cells (rcs now A n c B n d) 24) (.cells #[.int .i64 k, .bool true] 32)
  have HR := hid (h.step hB)
  have hn := h.hn
  obtain ⟨b, off, hAe, _, _, hc⟩ := HR.out.hx.row (by omega)
  have g := hc k hk
  obtain ⟨x, hX⟩ : ∃ x, x = ns[k]?.getD 0 := ⟨_, rfl⟩
  rw [← hX] at g h8 hok
  obtain ⟨k0, k1, k2, kf⟩ := PR.cells3
  obtain ⟨r0, r1, rf⟩ := PX.cells2
  have HX := hid hX; have HB := hid hB; have HPR := hid PR; have HPX := hid PX; have HPZ := hid PZ
  have c3' : (now == 2147483647) = false := by simp; omega
  have hz : (((w.alloc (.cells (rcs now A n c B n d) 24)).alloc (.cells #[.int .i64 k, .bool true] 32)).alloc (.cells (rcs 0 none 0 0 none 0 0) 24)).heap.size = w.heap.size + 3 := by simp
  have HZ := hid hz
  subst hAe
  clear h PX hB PR hc hX PZ hz
  have hx0 : (x == 8) = false := by simpa using hok
  clear hok
  go_enter Try.func15, Try.ntmps15
  go_upto_region 8 with fail
  clear k0 k1 k2 kf r0 r1 rf g
  generalize ((w.alloc (.cells #[.int .i64 now, .slice (some ⟨b, off, none⟩) n c, .slice B n d] 24)).alloc (.cells #[.int .i64 k, .bool true] 32)).alloc (.cells #[.int .i64 0, .slice none 0 0, .slice none 0 0] 24) = W0 at *
  go_cut [7] (fun s7 wx => ∃ g ga gb ca cb : Nat, s7 = .pointer (some ⟨g, 0, none⟩) ∧ Hand2 wx W0.heap.size g (now + 1) ga n ca gb cb ns os ∧ Below W0.heap.size W0 wx)
  case first =>
    obtain ⟨k0, k1, k2, kf⟩ := HPR.out.cells3
    have hwr : IntKind.i64.wrap (now + 1) = now + 1 := by rw [IntKind.wrap_i64]; omega
    have HS : Hid (∀ W, Below W0.heap.size W0 W → (Below W0.heap.size W0 W ∧ W.cell? ⟨w.heap.size, 0, none⟩ = some (.int .i64 now) ∧ W.cell? ⟨w.heap.size, 1, none⟩ = some (.slice (some ⟨b, off, none⟩) n c) ∧ W.cell? ⟨w.heap.size, 2, none⟩ = some (.slice B n d))) :=
      hid (fun W hw => ⟨hw, (HPR.out.step hw).cells3.1, (HPR.out.step hw).cells3.2.1, (HPR.out.step hw).cells3.2.2.1⟩)
    go_region_held3 (fun w' => Below W0.heap.size W0 w' ∧ w'.cell? ⟨w.heap.size, 0, none⟩ = some (.int .i64 now) ∧ w'.cell? ⟨w.heap.size, 1, none⟩ = some (.slice (some ⟨b, off, none⟩) n c) ∧ w'.cell? ⟨w.heap.size, 2, none⟩ = some (.slice B n d))
      (first
        | (go_split_ands; exact HS.out _ (by (repeat (first | assumption | (with_reducible exact Below.refl _ _) | (with_reducible exact (Below.refl _ _).drew) | (with_reducible refine Below.drew ?_) | (with_reducible refine Below.setCell ?_ (by simp <;> omega) _) | (with_reducible refine below_then ?_ (below_box _ _)) | (with_reducible refine below_then ?_ bB) | (with_reducible refine below_then ?_ bA))); done))
        | (go_keep; done))
      (first
        | (go_split_ands; refine step_appf i64 0 _ rfl _ _ 22 rfl 3 i0 _ 8 Try.underlying22 hi0 hz00 hz01 hz02 rfl 0 0 _ 0 0 [] rfl (Sl.nil _ _ _ _) _ _ (some ⟨b, off, none⟩) n c ns rfl (HR.out.hx.step (by assumption)) (by omega) one_i64 (by omega) (by simp only [maxLen]; omega) (by omega) (by omega) W0.heap.size (Below.size (by assumption)) ?_; intro ca wA ownA bA sA; simp only [Nat.zero_add, List.nil_append] at ownA; obtain ⟨cA, fA⟩ := bcell bA)
        | (go_split_ands; refine step_appf i64 0 _ rfl _ _ 22 rfl 3 i0 _ 8 Try.underlying22 hi0 hz00 hz01 hz02 rfl 0 0 _ 0 0 [] rfl (Sl.nil _ _ _ _) _ _ B n d os rfl (HR.out.hy.step (by assumption)) (by omega) one_i64 (by omega) (by simp only [maxLen]; omega) (by omega) (by omega) W0.heap.size (Below.size (by assumption)) ?_; intro cb wB ownB bB sB; simp only [Nat.zero_add, List.nil_append] at ownB; obtain ⟨cB, fB⟩ := bcell bB))
    all_goals
      go_wp2_with fail
      go_meet
      go_split_ands
      (try simp at sA)
      (try simp at sB)
      first
        | (have oA := ownA.step bB; have oB := ownB)
        | (have oA := (ownA.alloc _).step bB; have oB := ownB)
        | (have oA := ((ownA.alloc _).alloc _).step bB; have oB := ownB)
        | (have oB := ownB.step bA; have oA := ownA)
        | (have oB := (ownB.alloc _).step bA; have oA := ownA)
        | (have oB := ((ownB.alloc _).alloc _).step bA; have oA := ownA)
      (try simp only [World.size_alloc, World.size_drew, sA, sB] at oA)
      (try simp only [World.size_alloc, World.size_drew, sA, sB] at oB)
      refine' ⟨_, _, _, ca, cb, rfl, ⟨?box, ?oa, ?ob, ?ap, ?lo⟩, by assumption⟩
      case oa => first | exact oA | exact oA.alloc _ | exact ((oA.far (p := ⟨_, 0, none⟩) (by simp <;> omega) _).far (p := ⟨_, 1, none⟩) (by simp <;> omega) _).far (p := ⟨_, 2, none⟩) (by simp <;> omega) _
      case ob => first | exact oB | exact oB.alloc _ | exact ((oB.far (p := ⟨_, 0, none⟩) (by simp <;> omega) _).far (p := ⟨_, 1, none⟩) (by simp <;> omega) _).far (p := ⟨_, 2, none⟩) (by simp <;> omega) _
      case box =>
        first
          | exact Blk.at (by first | omega | (simp only [World.size_alloc, World.size_drew]; omega) | (simp <;> omega))
          | (refine Blk.set3 (a := .int .i64 0) (b := .slice none 0 0) (c := .slice none 0 0) ?_
             repeat (first | (with_reducible exact Blk.at (by first | omega | (simp only [World.size_alloc, World.size_drew]; omega) | (simp <;> omega))) | (with_reducible refine Blk.below ?_ bB (by first | omega | (simp only [World.size_alloc, World.size_drew]; omega) | (simp <;> omega))) | (with_reducible refine Blk.below ?_ bA (by first | omega | (simp only [World.size_alloc, World.size_drew]; omega) | (simp <;> omega))) | (with_reducible refine Blk.drew ?_) | (with_reducible refine Blk.alloc ?_ _)))
      case ap => (first | omega | (simp only [World.size_alloc, World.size_drew]; omega) | (simp <;> omega))
      case lo => (first | omega | (simp only [World.size_alloc, World.size_drew]; omega) | (simp <;> omega))
  case rest =>
    obtain ⟨g, ga, gb, ca, cb, rfl, hH, hBx⟩ := hcut
    obtain ⟨d1, d2, d3⟩ := hH.apart
    obtain ⟨l1, l2, l3⟩ := hH.hlo
    have hz := HZ.out
    have PX := HPX.out.step hBx
    have PZ := HPZ.out.step hBx
    obtain ⟨r0, r1, rf⟩ := PX.cells2
    obtain ⟨k0, k1, k2, kf⟩ := hH.box.cells3
    obtain ⟨ga', hq, _, _, a0, af⟩ := hH.oa.at_ 0 hk
    obtain rfl : ga = ga' := by simpa using hq
    obtain ⟨gb', hq', _, _, b0, bf⟩ := hH.ob.at_ 0 hk
    obtain rfl : gb = gb' := by simpa using hq'
    clear hq hq'
    have B1 := hH.box.far (p := ⟨ga, k, none⟩) (Ne.symm d2) (.int .i64 (x + 1))
    have PX1 := PX.far (p := ⟨ga, k, none⟩) (by simp; omega) (.int .i64 (x + 1))
    have PZ1 := PZ.far (p := ⟨ga, k, none⟩) (by simp; omega) (.int .i64 (x + 1))
    have HZZ := hid hz
    have n1 : w.heap.size + 1 + 1 ≠ gb := by omega
    have n2 : w.heap.size ≤ ga := by omega
    have n3 : w.heap.size ≤ gb := by omega
    have n4 : w.heap.size + 1 + 1 ≠ g := by omega
    clear hz
    obtain ⟨s0, s1, sf⟩ := PX1.cells2
    obtain ⟨m0, m1, m2, mf⟩ := B1.cells3
    have HHx := hid hH; have HBx := hid hBx
    by_cases hx1 : x = 0
    · have E := hid (show stepOs now ns os k true = os.set k (now + 1) by unfold stepOs; rw [if_pos rfl, ← HX.out, hx1]; rfl)
      have E' := hid (show stepNs ns k true = ns.set k (x + 1) by unfold stepNs; rw [if_pos rfl, ← HX.out])
      have PZ2 := PZ1.far (p := ⟨gb, k, none⟩) n1 (.int .i64 (now + 1))
      have B2 := B1.far (p := ⟨gb, k, none⟩) (Ne.symm d3) (.int .i64 (now + 1))
      obtain ⟨p0, p1, p2, pf⟩ := B2.cells3
      obtain ⟨z0, z1, z2, zf⟩ := PZ2.cells3
      have HPZ2 := hid PZ2
      have tx : (x == 0) = true := by simp [hx1]
      clear hx1 PZ1 PZ2 B1 B2 PX PX1 PZ hH hBx
      go_wp2
      have q := ((HPZ2.out.setCell 0 (.int .i64 (now + 1))).setCell 1 (.slice (some ⟨ga, 0, none⟩) n ca)).setCell 2 (.slice (some ⟨gb, 0, none⟩) n cb)
      obtain ⟨q0, q1, q2, qf⟩ := q.cells3
      refine bodyPost_ret (v := .tuple #[rv (now + 1) (some ⟨ga, 0, none⟩) n ca (some ⟨gb, 0, none⟩) n cb, .int .i64 0]) (by simp [results, Try.results15, go_sem, q0, q1, q2]) rfl ⟨some ⟨ga, 0, none⟩, n, ca, some ⟨gb, 0, none⟩, n, cb, rfl, ?_, ?_⟩
      · refine ⟨?_, ?_, fun a b e1 e2 => by simp at e1 e2; omega, hn, hn⟩
        · rw [E'.out]
          exact (((((HHx.out.oa.stored k _).far (p := ⟨gb, k, none⟩) d1 _).far (p := ⟨w.heap.size + 1 + 1, 0, none⟩) (by have := HZZ.out; simp; omega) _).far (p := ⟨w.heap.size + 1 + 1, 1, none⟩) (by have := HZZ.out; simp; omega) _).far (p := ⟨w.heap.size + 1 + 1, 2, none⟩) (by have := HZZ.out; simp; omega) _).mono (by have := HZZ.out; omega)
        · rw [E.out]
          exact (((((HHx.out.ob.far (p := ⟨ga, k, none⟩) (Ne.symm d1) _).stored k _).far (p := ⟨w.heap.size + 1 + 1, 0, none⟩) (Ne.symm n1) _).far (p := ⟨w.heap.size + 1 + 1, 1, none⟩) (Ne.symm n1) _).far (p := ⟨w.heap.size + 1 + 1, 2, none⟩) (Ne.symm n1) _).mono (by have := HZZ.out; omega)
      · exact (((((below_then HB.out HBx.out).setCell n2 _).setCell n3 _).setCell (by simp; omega) _).setCell (by simp; omega) _).setCell (by simp; omega) _
    · have E := hid (show stepOs now ns os k true = os by unfold stepOs; rw [if_pos rfl, ← HX.out]; unfold enterO; rw [if_neg hx1])
      have E' := hid (show stepNs ns k true = ns.set k (x + 1) by unfold stepNs; rw [if_pos rfl, ← HX.out])
      obtain ⟨z0, z1, z2, zf⟩ := PZ1.cells3
      have HPZ2 := hid PZ1
      have tx : (x == 0) = false := by simp [hx1]
      clear hx1 PZ1 B1 PX PX1 PZ hH hBx
      go_wp2
      have q := ((HPZ2.out.setCell 0 (.int .i64 (now + 1))).setCell 1 (.slice (some ⟨ga, 0, none⟩) n ca)).setCell 2 (.slice (some ⟨gb, 0, none⟩) n cb)
      obtain ⟨q0, q1, q2, qf⟩ := q.cells3
      refine bodyPost_ret (v := .tuple #[rv (now + 1) (some ⟨ga, 0, none⟩) n ca (some ⟨gb, 0, none⟩) n cb, .int .i64 0]) (by simp [results, Try.results15, go_sem, q0, q1, q2]) rfl ⟨some ⟨ga, 0, none⟩, n, ca, some ⟨gb, 0, none⟩, n, cb, rfl, ?_, ?_⟩
      · refine ⟨?_, ?_, fun a b e1 e2 => by simp at e1 e2; omega, hn, hn⟩
        · rw [E'.out]
          exact ((((HHx.out.oa.stored k _).far (p := ⟨w.heap.size + 1 + 1, 0, none⟩) (by have := HZZ.out; simp; omega) _).far (p := ⟨w.heap.size + 1 + 1, 1, none⟩) (by have := HZZ.out; simp; omega) _).far (p := ⟨w.heap.size + 1 + 1, 2, none⟩) (by have := HZZ.out; simp; omega) _).mono (by have := HZZ.out; omega)
        · rw [E.out]
          exact ((((HHx.out.ob.far (p := ⟨ga, k, none⟩) (Ne.symm d1) _).far (p := ⟨w.heap.size + 1 + 1, 0, none⟩) (Ne.symm n1) _).far (p := ⟨w.heap.size + 1 + 1, 1, none⟩) (Ne.symm n1) _).far (p := ⟨w.heap.size + 1 + 1, 2, none⟩) (Ne.symm n1) _).mono (by have := HZZ.out; omega)
      · exact ((((below_then HB.out HBx.out).setCell n2 _).setCell (by simp; omega) _).setCell (by simp; omega) _).setCell (by simp; omega) _
end Go.Proofs.Ytannechjcdgeeaa
