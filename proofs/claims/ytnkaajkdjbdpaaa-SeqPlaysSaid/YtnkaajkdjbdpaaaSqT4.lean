/- afterglowref06: next. No condition but sizes. -/
import Derived.Test.YtnkaajkdjbdpaaaSqT3
import Derived.Test.YtnkaajkdjbdpaaaSq14
namespace Go.Proofs.Ytnkaajkdjbdpaaa
open Go.RowKit
set_option maxRecDepth 100000 in
set_option maxHeartbeats 4000000 in
theorem rnext_any (A : Option Addr) (n c : Nat) (es : List WrE) (w : World) (h : Sm 6 encW zWe w 0 w.heap.size A n es) (hn : n ≤ 1000000) :
    Calls Try.prog 51 #[.slice A n c] w fun e w' => e = .returned (.int .i64 (firstGo (es.map Prod.fst))) ∧ Below w.heap.size w w' := by
  rw [← fstIx_goes]
  have HR := hid h
  have hl := hid h.len
  clear h
  go_enter Try.func51, Try.ntmps51
  go_wp2_with fail
  go_loopw [7] (fun i wr => ∃ j : Nat, j ≤ n ∧ i = .int .i64 j ∧ Below w.heap.size w wr ∧ ∀ k, k < j → goesW (es[k]?.getD zWe) = false) (fun i _ => n - (intOf i).toNat)
  case atStart => exact ⟨0, Nat.zero_le _, rfl, Below.refl _ _, fun k hk => absurd hk (Nat.not_lt_zero _)⟩
  case round =>
    obtain ⟨j, hj, rfl, hbr, hall⟩ := hrel
    have HA := hid hall; have HB := hid hbr
    clear hall hbr
    by_cases hjn : j < n
    · obtain ⟨b, off, rfl, _, hbh, hc⟩ := HR.out.row (by omega)
      obtain ⟨⟨s, V, vn, vc⟩, hx⟩ : ∃ x, x = es[j]?.getD zWe := ⟨_, rfl⟩
      have hc' := hc j hjn
      rw [← hx] at hc'
      have f0 := (HB.out.cell (p := ⟨b, off + j * 6 + 0, none⟩) hbh).trans (hc' 0 (by omega))
      rw [Nat.add_zero] at f0
      have f1 := (HB.out.cell (p := ⟨b, off + j * 6 + 1, none⟩) hbh).trans (hc' 1 (by omega))
      have f2 := (HB.out.cell (p := ⟨b, off + j * 6 + 2, none⟩) hbh).trans (hc' 2 (by omega))
      have f3 := (HB.out.cell (p := ⟨b, off + j * 6 + 3, none⟩) hbh).trans (hc' 3 (by omega))
      have f4 := (HB.out.cell (p := ⟨b, off + j * 6 + 4, none⟩) hbh).trans (hc' 4 (by omega))
      have f5 := (HB.out.cell (p := ⟨b, off + j * 6 + 5, none⟩) hbh).trans (hc' 5 (by omega))
      simp only [encW] at f0 f1 f2 f3 f4 f5
      have HX := hid hx; have HSW := hid HB.out.size
      have hji : (j : Int) < (n : Int) := by omega
      clear hx hc hc'
      obtain ⟨q, hq⟩ : ∃ q, q = goesW (s, V, vn, vc) := ⟨_, rfl⟩
      have dq : decide (s.ph < 4) = q := hq.symm
      have HQ := hid hq
      clear hq
      rcases q with _ | _
      · go_wp2_with fail
        go_roundw
        case rel => exact ⟨j + 1, by omega, by go_num, below_then HB.out (below_box wr _), below_succ HA.out (by rw [← HX.out, ← HQ.out])⟩
        case measure => simp [intOf]; omega
      have E := hid (show fstIx goesW es = j from fstIx_at _ es j (by rw [hl.out]; exact hjn) HA.out (by rw [← HX.out, ← HQ.out]))
      go_wp2
      go_ret
      exact ⟨ret_int E.out.symm, below_then HB.out (below_box wr _)⟩
    · obtain rfl : j = n := by omega
      have E := hid (show fstIx goesW es = -1 from fstIx_no _ es (fun k hk => HA.out k (by rw [← hl.out]; exact hk)))
      go_wp2
      go_ret
      exact ⟨ret_int E.out.symm, HB.out⟩
end Go.Proofs.Ytnkaajkdjbdpaaa
