/- package memory: Step. No condition but sizes. -/
import Derived.Test.YtnkaajkdjbdpaaaMe8
namespace Go.Proofs.Ytnkaajkdjbdpaaa
open Go.RowKit
theorem set_same {α : Type} {xs : List α} {k : Nat} {d : α} (h : k < xs.length) : xs.set k (xs[k]?.getD d) = xs := by
  rw [List.getElem?_eq_getElem h]
  exact List.set_getElem_self h
theorem mstep_any (A : Option Addr) (n c : Nat) (B : Option Addr) (m d : Nat) (f : Bool) (kind at_ old new : Int) (ws : List Int) (ls : List Bool) (w : World) (h : Mem w A n c B m d ws ls) :
    Calls Try.prog 77 #[mv A n c B m d f, av kind at_ old new] w (MSPost w (accF (ws, ls, f) (kind, at_, old, new))) := by
  by_cases hb : ¬ MGood ws ls ∨ kind < 1 ∨ 3 < kind
  · exact mstep_bad A n c B m d f kind at_ old new ws ls w h hb
  have hg : MGood ws ls := Classical.byContradiction fun hh => hb (.inl hh)
  have h1 : 1 ≤ kind := Int.not_lt.1 fun hh => hb (.inr (.inl hh))
  have h3 : kind ≤ 3 := Int.not_lt.1 fun hh => hb (.inr (.inr hh))
  by_cases ha : goodAt (ws, ls, f) at_ = false
  · exact mstep_fault A n c B m d f kind at_ old new ws ls w h hg h1 h3 ha
  have ha' : (0 ≤ at_ ∧ at_ < ws.length) ∧ ls[at_.toNat]?.getD false = true := by
    simp only [goodAt, Bool.not_eq_false, Bool.and_eq_true, decide_eq_true_eq] at ha
    exact ha
  obtain ⟨k, rfl⟩ := Int.eq_ofNat_of_zero_le ha'.1.1
  have hk : k < n := by have := h.lenx; omega
  have hlk : ls[k]?.getD false = true := by simpa using ha'.2
  have hE : accF (ws, ls, f) (kind, (k : Int), old, new) = (0, stepM (ws, ls, f) (kind, (k : Int), old, new)) := by
    unfold accF; rw [if_neg (not_not_intro hg), if_neg (by omega)]
  have hlen := h.lenx
  have core := fun fn y ws' => mstep_core A n c B m d f old new ws ls w h hg k hk hlk kind h1 h3 fn y ws'
  rw [hE]
  have hk3 : kind = 1 ∨ kind = 2 ∨ kind = 3 := by omega
  rcases hk3 with rfl | rfl | rfl
  · have e : stepM (ws, ls, f) (1, (k : Int), old, new) = ((ws, ls, f), (ws[k]?.getD 0, true)) := by
      unfold stepM; rw [if_neg ha, if_pos rfl, Int.toNat_natCast]
    rw [e]
    refine core 79 true ws (fun W => idx_does 1 (by omega) (by omega) W) (enters_of Try.func79 (by kernel_rfl) rfl) (fun W lo ga ho => (aload_any 1 k old new _ W).mono ?_)
    rintro e w' ⟨rfl, hg⟩
    exact ⟨rfl, hg.but _, ho.below (below_of_grown hg)⟩
  · have e : stepM (ws, ls, f) (2, (k : Int), old, new) = ((ws.set k new, ls, f), (ws[k]?.getD 0, true)) := by
      unfold stepM; rw [if_neg ha, if_neg (by simp), if_neg (by simp)]; simp only [Int.toNat_natCast]
    rw [e]
    exact core 80 true (ws.set k new) (fun W => idx_does 2 (by omega) (by omega) W) (enters_of Try.func80 (by kernel_rfl) rfl) (fun W lo ga ho => (astore_any 2 k old new ga n n k lo ws W ho hk).mono fun e w' hp => hp)
  · by_cases hx : ws[k]?.getD 0 = old
    · have e : stepM (ws, ls, f) (3, (k : Int), old, new) = ((ws.set k new, ls, f), (ws[k]?.getD 0, true)) := by
        unfold stepM; rw [if_neg ha, if_neg (by simp), if_neg (by simp [hx])]; simp only [Int.toNat_natCast]
      rw [e]
      exact core 81 true (ws.set k new) (fun W => idx_does 3 (by omega) (by omega) W) (enters_of Try.func81 (by kernel_rfl) rfl) (fun W lo ga ho => (aswap_yes 3 k old new ga n n k lo ws W ho hk hx).mono fun e w' hp => hp)
    · have e : stepM (ws, ls, f) (3, (k : Int), old, new) = ((ws, ls, f), (ws[k]?.getD 0, false)) := by
        unfold stepM; rw [if_neg ha, if_neg (by simp), if_pos (by simp [hx])]; simp only [Int.toNat_natCast]
      rw [e]
      refine core 81 false ws (fun W => idx_does 3 (by omega) (by omega) W) (enters_of Try.func81 (by kernel_rfl) rfl) (fun W lo ga ho => (aswap_no 3 k old new ga n n k lo ws W ho hk hx).mono ?_)
      rintro e w' ⟨rfl, hg⟩
      exact ⟨rfl, hg.but _, ho.below (below_of_grown hg)⟩
end Go.Proofs.Ytnkaajkdjbdpaaa
