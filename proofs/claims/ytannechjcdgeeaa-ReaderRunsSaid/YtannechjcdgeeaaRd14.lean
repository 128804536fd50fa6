/- afterglowref11: Step. No condition but sizes, and that rows hold numbers up to 8. -/
import Derived.Test.YtannechjcdgeeaaRd13
import Derived.Test.YtannechjcdgeeaaKit7
import Derived.Deep.DeepCutAuto
namespace Go.Proofs.Ytannechjcdgeeaa
open Go.RowKit Go.Shelf Go.Maps

def rstepF (s : St) (x : Int × Bool) : Int × St := if stC s x = 0 then (0, stN s x) else (stC s x, (0, [], []))
/-- the error's way out -/
theorem rstep_post {w W : World} {now : Int} {ns os : List Int} {x : Int × Bool} {code : Int} (hc : stC (now, ns, os) x = code) (h0 : code ≠ 0) (hb : Below w.heap.size w W) :
    OnePost w (rstepF (now, ns, os) x) (.returned (.tuple #[rv 0 none 0 0 none 0 0, .int .i64 code])) W := by
  have e : rstepF (now, ns, os) x = (code, (0, [], [])) := by unfold rstepF; rw [if_neg (by omega), hc]
  rw [e]
  exact ⟨none, 0, 0, none, 0, 0, rfl, Rown.none _ _, hb⟩

set_option maxRecDepth 10000 in
set_option maxHeartbeats 4000000 in
theorem rstep_bad (now : Int) (A : Option Addr) (n c : Nat) (B : Option Addr) (m d : Nat) (ns os : List Int) (cpu : Int) (ent : Bool) (w : World) (h : Rds w A n c B m d ns os) (hbad : stepCode now ns cpu ent ≠ 0) :
    Calls Try.prog 15 #[rv now A n c B m d, rdv cpu ent] w (OnePost w (rstepF (now, ns, os) (cpu, ent))) := by
  have hB := below_then (below_then (below_box w (.cells (rcs now A n c B m d) 24)) (below_box _ (.cells #[.int .i64 cpu, .bool ent] 32))) (below_box _ (.cells (rcs 0 none 0 0 none 0 0) 24))
  have PR := ((Blk.new w 24 (rcs now A n c B m d)).step (below_box _ (.cells #[.int .i64 cpu, .bool ent] 32))).step (below_box _ (.cells (rcs 0 none 0 0 none 0 0) 24))
  have PX := (Blk.new2 w 32 #[.int .i64 cpu, .bool ent] (.cells (rcs now A n c B m d) 24)).step (below_box _ (.cells (rcs 0 none 0 0 none 0 0) 24))
  have HR := hid (h.step hB)
  have hl := h.lenx
  obtain ⟨k0, k1, k2, kf⟩ := PR.cells3
  obtain ⟨r0, r1, rf⟩ := PX.cells2
  have HB := hid hB
  clear h PX hB PR
  by_cases c1 : cpu < 0
  · have E := hid (show stC (now, ns, os) (cpu, ent) = 2 by show stepCode now ns cpu ent = 2; unfold stepCode; rw [if_pos (.inl c1)])
    clear hl hbad
    go_enter Try.func15, Try.ntmps15
    go_wp2
    refine bodyPost_ret (v := .tuple #[rv 0 none 0 0 none 0 0, .int .i64 2]) (by simp [results, Try.results15, go_sem]) rfl (rstep_post E.out (by omega) HB.out)
  obtain ⟨k, rfl⟩ := Int.eq_ofNat_of_zero_le (by omega : 0 ≤ cpu)
  by_cases c2 : k < n
  · have hlt : ¬ ((k : Int) < 0 ∨ (ns.length : Int) ≤ k) := by omega
    obtain ⟨b, off, rfl, _, _, hc⟩ := HR.out.hx.row (by omega)
    have g := hc k c2
    obtain ⟨x, hX⟩ : ∃ x, x = ns[k]?.getD 0 := ⟨_, rfl⟩
    rw [← hX] at g
    have HX := hid hX
    have HLT := hid hlt
    clear hlt hl hc hX
    by_cases c3 : now = 2147483647
    · have E := hid (show stC (now, ns, os) (k, ent) = 6 by show stepCode now ns k ent = 6; unfold stepCode; rw [if_neg HLT.out, if_pos c3])
      have c3' : (now == 2147483647) = true := by simp [c3]
      clear c3 hbad
      go_enter Try.func15, Try.ntmps15
      go_wp2
      refine bodyPost_ret (v := .tuple #[rv 0 none 0 0 none 0 0, .int .i64 6]) (by simp [results, Try.results15, go_sem]) rfl (rstep_post E.out (by omega) HB.out)
    · have E0 := hid (show stepCode now ns k ent = if ent = true then (if x = 8 then 6 else 0) else (if x = 0 then 4 else 0) by unfold stepCode; rw [if_neg HLT.out, if_neg c3, HX.out]; rfl)
      have c3' : (now == 2147483647) = false := by simp [c3]
      clear c3
      cases ent
      · have hx0 : x = 0 := by
          apply Classical.byContradiction; intro hne
          exact hbad (by rw [E0.out, if_neg (by simp), if_neg hne])
        have E := hid (show stC (now, ns, os) (k, false) = 4 by show stepCode now ns k false = 4; rw [E0.out, if_neg (by simp), if_pos hx0])
        clear hbad
        subst hx0
        go_enter Try.func15, Try.ntmps15
        go_wp2
        refine bodyPost_ret (v := .tuple #[rv 0 none 0 0 none 0 0, .int .i64 4]) (by simp [results, Try.results15, go_sem]) rfl (rstep_post E.out (by omega) HB.out)
      · have hx0 : x = 8 := by
          apply Classical.byContradiction; intro hne
          exact hbad (by rw [E0.out, if_pos rfl, if_neg hne])
        have E := hid (show stC (now, ns, os) (k, true) = 6 by show stepCode now ns k true = 6; rw [E0.out, if_pos rfl, if_pos hx0])
        clear hbad
        subst hx0
        go_enter Try.func15, Try.ntmps15
        go_wp2
        refine bodyPost_ret (v := .tuple #[rv 0 none 0 0 none 0 0, .int .i64 6]) (by simp [results, Try.results15, go_sem]) rfl (rstep_post E.out (by omega) HB.out)
  · have E := hid (show stC (now, ns, os) (k, ent) = 2 by show stepCode now ns k ent = 2; unfold stepCode; rw [if_pos (.inr (by omega))])
    clear hl hbad
    go_enter Try.func15, Try.ntmps15
    go_wp2
    refine bodyPost_ret (v := .tuple #[rv 0 none 0 0 none 0 0, .int .i64 2]) (by simp [results, Try.results15, go_sem]) rfl (rstep_post E.out (by omega) HB.out)
end Go.Proofs.Ytannechjcdgeeaa
