/- package rcu: the deferred function of tries. No condition. -/
import Derived.Test.YtfipdoofgbjbjaaRc1
namespace Go.Proofs.Ytfipdoofgbjbjaa
open Go.RowKit
@[reducible] def cpu0 : Array Value := #[.int .i64 0, .slice none 0 0, .slice none 0 0, .int .i64 0, .int .i64 0, .bool false, .slice none 0 0, .slice none 0 0, .int .i64 0, .int .u64 0, .slice none 0 0]
/-- what the deferred function leaves: a new both, and the error -/
def RCaught (lo gb ge : Nat) (e : Int) (w w' : World) : Prop := ∃ gn, w.heap.size ≤ gn ∧ Below lo w w' ∧ Blk w' gn 79 cpu0 ∧ Blk w' gb 73 #[ptr gn] ∧ Blk w' ge 33 #[.int .i64 e]
set_option maxRecDepth 100000 in
set_option maxHeartbeats 400000 in
theorem rcatch_panicking (gb ge lo : Nat) (e : Int) (v0 v1 : Value) (w : World) (hb : Blk w gb 73 #[v0]) (he : Blk w ge 33 #[v1]) (hl : lo ≤ gb) (hl' : lo ≤ ge) (hls : lo ≤ w.heap.size) :
    CallsD Try.prog 52 #[ptr gb, ptr ge] (.panicking [{ v := .iface 33 (.int .i64 e), recovered := false }]) w fun x u' w' =>
      x = .returned (.tuple #[]) ∧ u' = .panicking [{ v := .iface 33 (.int .i64 e), recovered := true }] ∧ RCaught lo gb ge e w w' := by
  have HB := hid hb; have HE := hid he
  have hlt := hid hb.lt; have hlt' := hid he.lt
  have hne := hid (show gb ≠ ge from fun h => by subst h; unfold Blk at hb he; rw [hb] at he; simp at he)
  clear hb he
  refine callsD_of_wpS Try.func52 rfl fun c₀ cs hu => ?_
  apply wpS_seq
  apply wpS_region
  simp [wpOpsS, go_sem, recoverD, hu, Try.ntmps52, Exit.thenS]
  clear hu
  refine wpS_of_wp (wp_weak (RCaught lo gb ge e w) (fun Q hQ => ?_) ?_)
  · have HQ := hid hQ
    clear hQ
    have P := hid (Blk.new w 79 cpu0)
    have HB1 := hid (HB.out.alloc (.cells #[.int .i64 0, .slice none 0 0, .slice none 0 0, .int .i64 0, .int .i64 0, .bool false, .slice none 0 0, .slice none 0 0, .int .i64 0, .int .u64 0, .slice none 0 0] 79))
    have HE1 := hid (HE.out.alloc (.cells #[.int .i64 0, .slice none 0 0, .slice none 0 0, .int .i64 0, .int .i64 0, .bool false, .slice none 0 0, .slice none 0 0, .int .i64 0, .int .u64 0, .slice none 0 0] 79))
    have hN : ∀ w : World, (binOp .neq 20 (.iface 33 (.int .i64 e)) .nilIface).run Try.prog w = .ok (.bool true) w := neq_nil e
    have hT : ∀ w : World, (Instr.typeAssert (.iface 33 (.int .i64 e)) 20 33 true).run Try.prog w = .ok (.tuple #[.int .i64 e, .bool true]) w := is_errno e

    change Code.wp _ _ Q { tmps := #[ptr gb, ptr ge, .iface 33 (.int .i64 e), undef, undef, .iface 33 (.int .i64 e), undef, undef, undef, undef, undef, undef, undef, undef, undef, undef, undef, undef, undef], defers := [] } w
    go_upto_region 5 with fail
    have c0 := HB1.out.cell 0
    have f0 := HB1.out.frozen 0
    have c1 := HE1.out.cell 0
    have f1 := HE1.out.frozen 0
    have n1 : ¬ gb = ge := hne.out
    have n2 : ¬ ge = gb := fun h => hne.out h.symm
    clear hN hT
    go_wp2_with fail
    exact HQ.out _ _ rfl ⟨w.heap.size, Nat.le_refl _, (((Below.refl lo w).alloc hls _).setCell hl _).setCell hl' _, (P.out.far (p := ⟨gb, 0, none⟩) (Nat.ne_of_gt hlt.out) _).far (p := ⟨ge, 0, none⟩) (Nat.ne_of_gt hlt'.out) _, (HB1.out.setCell 0 _).far (p := ⟨ge, 0, none⟩) hne.out _, (HE1.out.far (p := ⟨gb, 0, none⟩) (fun h => hne.out h.symm) _).setCell 0 _⟩
  · rintro a' W' hd hR
    exact ⟨hd, _, rfl, .tuple #[], results_none rfl _ _ _, rfl, rfl, hR⟩
set_option maxRecDepth 100000 in
set_option maxHeartbeats 4000000 in
theorem rcatch_idle (gb ge : Nat) (w : World) :
    CallsD Try.prog 52 #[ptr gb, ptr ge] .returning w fun x u' w' => x = .returned (.tuple #[]) ∧ u' = .returning ∧ w' = w := by
  refine callsD_of_wpS Try.func52 rfl fun c₀ cs hu => ?_
  apply wpS_seq
  apply wpS_region
  simp [wpOpsS, go_sem, recoverD, hu, Try.ntmps52, Exit.thenS]
  refine wpS_of_wp (wp_weak (fun W' => W' = w) (fun Q hQ => ?_) ?_)
  · have HQ := hid hQ
    clear hQ hu
    have hN : ∀ w : World, (binOp .neq 20 .nilIface .nilIface).run Try.prog w = .ok (.bool false) w := nil_nil
    change Code.wp _ _ Q { tmps := #[ptr gb, ptr ge, .nilIface, undef, undef, .nilIface, undef, undef, undef, undef, undef, undef, undef, undef, undef, undef, undef, undef, undef], defers := [] } w
    apply wp_seq
    go_upto_region 1 with fail
    go_upto_region 2 with fail
    exact HQ.out _ _ rfl rfl
  · rintro a' W' hd rfl
    refine ⟨hd, .returning, ?_, .tuple #[], results_none rfl _ _ _, rfl, rfl, rfl⟩
    rw [← hu]
end Go.Proofs.Ytfipdoofgbjbjaa
