/- package memory: does, load, store, swap. No condition. -/
import Derived.Test.YtnkaajkdjbdpaaaMe5
import Derived.Deep.RegionWith
import Derived.Laws.EntriesVeiled
namespace Go.Proofs.Ytnkaajkdjbdpaaa
open Go.RowKit
@[reducible] def acs (kind at_ : Int) (old new : Int) : Array Value := #[.int .i64 kind, .int .i64 at_, .int .u64 old, .int .u64 new]
@[reducible] def av (kind at_ : Int) (old new : Int) : Value := .agg (acs kind at_ old new)
theorem does_any (w : World) : Calls Try.prog 78 #[] w fun e w' => e = .returned (.agg #[.nilFunc, .func (.func 79) #[] #[], .func (.func 80) #[] #[], .func (.func 81) #[] #[]]) ∧ Below w.heap.size w w' := by
  go_enter Try.func78, Try.ntmps78
  go_wp2
  refine bodyPost_ret (v := .agg #[.nilFunc, .func (.func 79) #[] #[], .func (.func 80) #[] #[], .func (.func 81) #[] #[]]) (by simp [results, Try.results78, go_sem]) rfl ⟨rfl, ?_⟩
  exact (Below.refl _ w).alloc (Nat.le_refl _) _
theorem grown_drewN (w : World) (q : Nat) (r : Option Nat) : w.grownBy (w.drewN q) r := ⟨rfl, rfl, rfl, Nat.le_refl _, fun _ _ _ => rfl⟩
theorem grown_setCell (w : World) (g k : Nat) (u : Value) : w.grownBy (w.setCell ⟨g, k, none⟩ u) (some g) := ⟨rfl, rfl, rfl, by simp, fun i _ hne => Below.heap_setCell w ⟨g, k, none⟩ u i (fun h => hne (by rw [h]))⟩
theorem aload_any (kind at_ : Int) (old new : Int) (p : Value) (w : World) : Calls Try.prog 79 #[av kind at_ old new, p] w fun e w' => e = .returned (.bool true) ∧ w.grownBy w' none := by
  go_enter Try.func79, Try.ntmps79
  go_wp2
  go_ret
  exact ⟨rfl, World.grownBy_alloc w _ _⟩
/-- a word that is written -/
def WrPost (W : World) (lo g n c k : Nat) (ws : List Int) (x : Int) (e : Ending) (W' : World) : Prop := e = .returned (.bool true) ∧ W.grownBy W' (some g) ∧ Ow u64v W' lo 27 (some ⟨g, 0, none⟩) n c (ws.set k x)
theorem astore_any (kind at_ : Int) (old new : Int) (g n c k lo : Nat) (ws : List Int) (w : World) (h : Ow u64v w lo 27 (some ⟨g, 0, none⟩) n c ws) (hk : k < n) :
    Calls Try.prog 80 #[av kind at_ old new, .pointer (some ⟨g, k, none⟩)] w (WrPost w lo g n c k ws new) := by
  obtain ⟨g', hq, _, _, a0, af⟩ := (h.alloc (.cells (acs kind at_ old new) 130)).at_ 0 hk
  obtain rfl : g = g' := by simpa using hq
  have P := Blk.new w 130 (acs kind at_ old new)
  obtain ⟨k0, k1, k2, k3, kf⟩ := P.cells4
  have HH := hid h
  clear P h
  go_enter Try.func80, Try.ntmps80
  go_wp2
  go_ret
  exact ⟨rfl, (World.grownBy_alloc w _ _).trans (grown_setCell _ g k _), (HH.out.alloc _).stored k new⟩
theorem aswap_no (kind at_ : Int) (old new : Int) (g n c k lo : Nat) (ws : List Int) (w : World) (h : Ow u64v w lo 27 (some ⟨g, 0, none⟩) n c ws) (hk : k < n) (hx : ws[k]?.getD 0 ≠ old) :
    Calls Try.prog 81 #[av kind at_ old new, .pointer (some ⟨g, k, none⟩)] w fun e w' => e = .returned (.bool false) ∧ w.grownBy w' none := by
  obtain ⟨g', hq, _, _, a0, af⟩ := (h.alloc (.cells (acs kind at_ old new) 130)).at_ 0 hk
  obtain rfl : g = g' := by simpa using hq
  obtain ⟨k0, k1, k2, k3, kf⟩ := (Blk.new w 130 (acs kind at_ old new)).cells4
  obtain ⟨x, hX⟩ : ∃ x, x = ws[k]?.getD 0 := ⟨_, rfl⟩
  rw [← hX] at a0 hx
  have e : (x == old) = false := by simp [hx]
  clear h hX hx
  go_enter Try.func81, Try.ntmps81
  go_wp2
  go_quiet (fail)
  go_wp2
  go_ret
  exact ⟨rfl, (World.grownBy_alloc w _ none).trans (grown_drewN _ _ _)⟩
theorem aswap_yes (kind at_ : Int) (old new : Int) (g n c k lo : Nat) (ws : List Int) (w : World) (h : Ow u64v w lo 27 (some ⟨g, 0, none⟩) n c ws) (hk : k < n) (hx : ws[k]?.getD 0 = old) :
    Calls Try.prog 81 #[av kind at_ old new, .pointer (some ⟨g, k, none⟩)] w (WrPost w lo g n c k ws new) := by
  obtain ⟨g', hq, _, _, a0, af⟩ := (h.alloc (.cells (acs kind at_ old new) 130)).at_ 0 hk
  obtain rfl : g = g' := by simpa using hq
  obtain ⟨k0, k1, k2, k3, kf⟩ := (Blk.new w 130 (acs kind at_ old new)).cells4
  rw [hx] at a0
  have HC := hid (fun q => astore_any kind at_ old new g n c k lo ws _ ((h.alloc (.cells (acs kind at_ old new) 130)).drewN q) hk)
  have HG := hid (World.grownBy_alloc w (.cells (acs kind at_ old new) 130) (some g))
  clear h hx
  go_enter Try.func81, Try.ntmps81
  go_wp2_with fail
  go_region_with (go_at_call 80; refine (HC.out 1).mono ?_; rintro e w2 ⟨rfl, hg2, ho2⟩)
  all_goals
    go_wp2
    go_ret
    exact ⟨rfl, (HG.out.trans (grown_drewN _ 1 _)).trans hg2, ho2⟩
end Go.Proofs.Ytnkaajkdjbdpaaa
