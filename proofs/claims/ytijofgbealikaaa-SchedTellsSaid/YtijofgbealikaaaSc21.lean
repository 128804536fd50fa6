/- afterglowref04: Rounds. No condition but sizes. -/
import Derived.Test.YtijofgbealikaaaSc20
namespace Go.Proofs.Ytijofgbealikaaa
open Go.RowKit
set_option maxHeartbeats 4000000 in
theorem rrounds_any (c : Nat) (P : Option Addr) (n cp lo hi : Nat) (xs : List Int) (w : World) (h : Sl i64 0 w lo hi P n xs) (hn : n ≤ 1000000) (hc : c ≤ 8) (hcp : n ≤ cp) :
    Calls Try.prog 22 #[.int .i64 c, .slice P n cp] w fun e w' => e = .returned (.int .i64 (rdF c xs n).1) ∧ w = w' := by
  have HR := hid h
  have hl := hid h.len
  clear h
  go_enter Try.func22, Try.ntmps22
  go_wp2_with fail
  go_loopw [5, 6, 7, 8, 9, 12] (fun s f _ _ _ v wr => wr = w ∧ ∃ i : Nat, i ≤ n ∧ v = .int .i64 i ∧ s = .int .i64 (rdF c xs i).1 ∧ f = .int .i64 (rdF c xs i).2) (fun _ _ _ _ _ v _ => n - (intOf v).toNat)
  case atStart => exact ⟨rfl, 0, Nat.zero_le _, rfl, rfl, rfl⟩
  case round =>
    obtain ⟨rfl, i, hi, rfl, rfl, rfl⟩ := hrel
    by_cases hin : i < n
    rotate_left
    · obtain rfl : i = n := by omega
      have hnn : ¬ ((i : Int) < (i : Int)) := by omega
      go_wp2
      go_ret
      exact ⟨rfl, rfl⟩
    have hii : (i : Int) < (n : Int) := by omega
    have hw1 : IntKind.i64.wrap ((i : Int) + 1) = (i : Int) + 1 := by rw [IntKind.wrap_i64]; omega
    obtain ⟨a, ha⟩ : ∃ a, a = (rdF c xs i).2 := ⟨_, rfl⟩
    obtain ⟨s, hs⟩ : ∃ s, s = (rdF c xs i).1 := ⟨_, rfl⟩
    have hai : a ≤ i := by rw [ha]; exact rdF_from c xs i
    have hsi : s ≤ i := by rw [hs]; exact rdF_le c xs i
    have hw3 : IntKind.i64.wrap ((s : Int) + 1) = (s : Int) + 1 := by rw [IntKind.wrap_i64]; omega
    have HE := hid (show rdF c xs (i + 1) = if Whole c xs a (i + 1) then (s + 1, i + 1) else rdF c xs i by rw [rdF_succ, ha, hs])
    rw [← ha, ← hs]
    have HA := hid ha; have HSS := hid hs
    clear ha hs
    obtain ⟨K, hK⟩ : ∃ K, K = i + 1 - a := ⟨_, rfl⟩
    have hK1 : 1 ≤ K := by omega
    have haK : a + K = i + 1 := by omega
    obtain ⟨b, off, rfl, _, _, _⟩ := HR.out.row (by omega)
    have HS := hid (HR.out.sub (show a + K ≤ n by omega))
    have hb1 : (0 : Int) ≤ (a : Int) := by omega
    have hb2 : (a : Int) ≤ (i : Int) + 1 := by omega
    have hb3 : (i : Int) + 1 ≤ (cp : Int) := by omega
    have hbk : (i : Int) + 1 - (a : Int) = (K : Int) := by omega
    go_wp2_with fail
    go_loopw [8, 9, 16] (fun t _ v wr' => wr' = wr ∧ ∃ q : Nat, q ≤ c ∧ v = .int .i64 q ∧ t = .bool (decide (∀ q' : Nat, q' < q → trail xs (q' : Int) (i + 1) < i + 1 - a))) (fun _ _ v _ => c - (intOf v).toNat)
    case atStart => exact ⟨rfl, 0, Nat.zero_le _, rfl, by rw [decide_eq_true (fun q' hq' => absurd hq' (Nat.not_lt_zero _))]⟩
    case round =>
      obtain ⟨rfl, q, hq, rfl, rfl⟩ := hrel
      obtain ⟨t, ht⟩ : ∃ t, t = decide (∀ q' : Nat, q' < q → trail xs (q' : Int) (i + 1) < i + 1 - a) := ⟨_, rfl⟩
      rw [← ht]
      have HT := hid ht
      clear ht
      by_cases hqc : q < c
      · have hqi : (q : Int) < (c : Int) := by omega
        have hw4 : IntKind.i64.wrap ((q : Int) + 1) = (q : Int) + 1 := by rw [IntKind.wrap_i64]; omega
        rcases t with _ | _
        · have HF := hid (show decide (∀ q' : Nat, q' < q + 1 → trail xs (q' : Int) (i + 1) < i + 1 - a) = false from decide_eq_false (fun h => of_decide_eq_false HT.out.symm (fun q' hq' => h q' (by omega))))
          go_wp2_with fail
          go_roundw
          case rel => exact ⟨by trivial, q + 1, by omega, by go_num, by rw [HF.out]⟩
          case measure => simp [intOf]; omega
        · go_wp2_with fail
          rw [← hK]
          refine (rhas_any (some ⟨b, off + a, none⟩) K (cp - a) _ _ ((xs.drop a).take K) q _ HS.out (by omega)).mono ?_
          rintro e w1 ⟨rfl, rfl⟩
          have hiff := has_sub (q := (q : Int)) (show a + K ≤ xs.length by rw [hl.out]; omega) hK1
          rw [haK] at hiff
          have HF := hid (show decide (∀ q' : Nat, q' < q + 1 → trail xs (q' : Int) (i + 1) < i + 1 - a) = decide (waitR ((xs.drop a).take K) q < K) from decide_eq_decide.2 ⟨fun h => hiff.2 (by have := h q (by omega); omega), fun h q' hq' => by
            rcases Nat.lt_or_ge q' q with h1 | h1
            · exact of_decide_eq_true HT.out.symm q' h1
            · obtain rfl : q' = q := by omega
              have := hiff.1 h
              omega⟩)
          clear hiff
          obtain ⟨t2, ht2⟩ : ∃ t2, t2 = decide (waitR ((xs.drop a).take K) q < K) := ⟨_, rfl⟩
          rw [← ht2]
          have HT2 := hid ht2
          clear ht2
          go_wp2_with fail
          go_roundw
          case rel => exact ⟨by trivial, q + 1, by omega, by go_num, by rw [HF.out, HT2.out]⟩
          case measure => simp [intOf]; omega
      · obtain rfl : q = c := by omega
        have hnn : ¬ ((q : Int) < (q : Int)) := by omega
        have HW := hid (show t = true ↔ Whole q xs a (i + 1) by rw [HT.out, decide_eq_true_eq]; exact Iff.rfl)
        clear HT
        rcases t with _ | _
        · have HE2 := hid (show rdF q xs (i + 1) = rdF q xs i by rw [HE.out, if_neg (fun h => Bool.noConfusion (HW.out.2 h))])
          go_wp2_with fail
          go_roundw
          case rel => exact ⟨by trivial, i + 1, by omega, by go_num, by rw [HE2.out, ← HSS.out], by rw [HE2.out, ← HA.out]⟩
          case measure => simp [intOf]; omega
        · have HE2 := hid (show rdF q xs (i + 1) = (s + 1, i + 1) by rw [HE.out, if_pos (HW.out.1 rfl)])
          go_wp2_with fail
          go_roundw
          case rel => exact ⟨by trivial, i + 1, by omega, by go_num, by rw [HE2.out]; go_num, by rw [HE2.out]; go_num⟩
          case measure => simp [intOf]; omega
end Go.Proofs.Ytijofgbealikaaa
