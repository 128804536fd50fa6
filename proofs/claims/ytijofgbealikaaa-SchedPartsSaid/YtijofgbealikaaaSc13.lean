/- afterglowlaw04: few. afterglowref04: sorted. No condition but sizes. -/
import Derived.Test.YtijofgbealikaaaSc12
namespace Go.Proofs.Ytijofgbealikaaa
open Go.RowKit
set_option maxHeartbeats 1000000 in
theorem fewI_any (A : Option Addr) (n c : Nat) (xs : List Int) (w : World) (h : Sl i64 0 w 0 w.heap.size A n xs) (hnc : n ≤ c) :
    Calls Try.prog 9 #[.slice A n c] w fun e w' => (∃ A' m d, e = .returned (.slice A' m d) ∧ m ≤ 60 ∧ m ≤ d ∧ Ow i64 w' w.heap.size 3 A' m d (xs.take 60)) ∧ Below w.heap.size w w' := by
  obtain ⟨m4, hm4⟩ : ∃ m, m = min n 60 := ⟨_, rfl⟩
  have hmm : (if (60 : Int) < (n : Int) then (60 : Int) else (n : Int)) = (m4 : Int) := by split <;> omega
  have hmm2 : min (n : Int) 60 = (m4 : Int) := by omega
  have hmc1 : (m4 : Int) ≤ (c : Int) := by omega
  have hmc0 : (0 : Int) ≤ (m4 : Int) := by omega
  have HV := hid (show Sl i64 0 w 0 w.heap.size A m4 (xs.take 60) by
    rw [hm4]
    by_cases h18 : n ≤ 60
    · rw [show min n 60 = n by omega, List.take_of_length_le (by rw [h.len]; exact h18)]; exact h
    · rw [show min n 60 = 60 by omega]; exact h.take (by omega))
  have hm60 : m4 ≤ 60 := by omega
  clear hm4 h
  go_enter Try.func9, Try.ntmps9
  go_wp2_with fail
  refine (clone_int A m4 c 0 (xs.take 60) _ HV.out (by omega)).mono ?_
  rintro e w1 ⟨A', d, rfl, ho, hb⟩
  have HO := hid ho; have HB := hid hb
  clear ho hb
  have hcap := hid HO.out.cap.1
  go_wp2
  go_ret
  exact ⟨⟨A', m4, d, rfl, hm60, hcap.out, HO.out⟩, HB.out⟩
end Go.Proofs.Ytijofgbealikaaa
