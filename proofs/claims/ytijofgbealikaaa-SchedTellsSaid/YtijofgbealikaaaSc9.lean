/- afterglowref04: Fair, Least. No condition but sizes. -/
import Derived.Test.YtijofgbealikaaaSc8
import Derived.Test.YtijofgbealikaaaKitA
namespace Go.Proofs.Ytijofgbealikaaa
open Go.RowKit
/-- are picks k-fair: no CPU waits k behind any of them -/
def FairP (c : Nat) (xs : List Int) (k : Int) : Prop := 1 ≤ k ∧ ∀ j, j < xs.length + 1 → ∀ q, q < c → (trail xs q j : Int) < k
instance {c : Nat} {xs : List Int} {k : Int} : Decidable (FairP c xs k) := by unfold FairP; infer_instance
theorem trail_sub (xs : List Int) (q : Int) (i K : Nat) (h : i + K ≤ xs.length) : ∀ j, j ≤ K → trail ((xs.drop i).take K) q j = min (trail xs q (i + j)) j
  | 0, _ => by rw [show trail ((xs.drop i).take K) q 0 = 0 from rfl]; omega
  | j + 1, hj => by
    rw [trail_succ, trail_sub xs q i K h j (by omega), ← Nat.add_assoc, trail_succ]
    have e : ((xs.drop i).take K)[j]?.getD 0 = xs[i + j]?.getD 0 := by rw [List.getElem?_take, if_pos (by omega), List.getElem?_drop]
    rw [e]
    split <;> omega
theorem has_sub {xs : List Int} {q : Int} {i K : Nat} (h : i + K ≤ xs.length) (hK : 1 ≤ K) : waitR ((xs.drop i).take K) q < K ↔ trail xs q (i + K) < K := by
  unfold waitR
  rw [show ((xs.drop i).take K).length = K by rw [List.length_take, List.length_drop]; omega, trail_sub xs q i K h K (Nat.le_refl _)]
  omega
set_option maxHeartbeats 4000000 in
theorem rfair_any (c : Nat) (P : Option Addr) (n cp lo hi : Nat) (xs : List Int) (kk : Int) (w : World) (h : Sl i64 0 w lo hi P n xs) (hn : n ≤ 1000000) (hc : c ≤ 8) (hcp : n ≤ cp) :
    Calls Try.prog 20 #[.int .i64 c, .slice P n cp, .int .i64 kk] w fun e w' => e = .returned (.bool (decide (FairP c xs kk))) ∧ w = w' := by
  have HR := hid h
  have hl := hid h.len
  clear h
  by_cases h1 : kk < 1
  · have d1 : decide (kk < 1) = true := decide_eq_true h1
    have E := hid (show decide (FairP c xs kk) = false from decide_eq_false (fun h => by have := h.1; omega))
    clear h1
    go_enter Try.func20, Try.ntmps20
    go_wp2
    go_ret
    exact ⟨ret_bool E.out.symm, rfl⟩
  have d1 : decide (kk < 1) = false := decide_eq_false h1
  obtain ⟨K, rfl⟩ := Int.eq_ofNat_of_zero_le (show 0 ≤ kk by omega)
  have hK : 1 ≤ K := by omega
  clear h1
  go_enter Try.func20, Try.ntmps20
  go_wp2_with fail
  clear d1
  go_loopw [7] (fun v wr => wr = w ∧ ∃ i : Nat, i ≤ n + 1 ∧ v = .int .i64 i ∧ ∀ j, j < i + K → ∀ q, q < c → trail xs q j < K) (fun v _ => n + 1 - (intOf v).toNat)
  case atStart => exact ⟨rfl, 0, Nat.zero_le _, rfl, fun j hj q _ => by have := trail_le xs q j; omega⟩
  case round =>
    obtain ⟨rfl, i, hi, rfl, hall⟩ := hrel
    have HA := hid hall
    clear hall
    have hw1 : IntKind.i64.wrap ((n : Int) - (i : Int)) = (n : Int) - (i : Int) := by rw [IntKind.wrap_i64]; omega
    by_cases hin : i + K ≤ n
    rotate_left
    · have d2 : decide ((K : Int) ≤ (n : Int) - (i : Int)) = false := decide_eq_false (by omega)
      have E := hid (show decide (FairP c xs (K : Int)) = true from decide_eq_true ⟨by omega, fun j hj q hq => by have := HA.out j (by rw [hl.out] at hj; omega) q hq; omega⟩)
      go_wp2
      go_ret
      exact ⟨ret_bool E.out.symm, rfl⟩
    have d2 : decide ((K : Int) ≤ (n : Int) - (i : Int)) = true := decide_eq_true (by omega)
    have hw2 : IntKind.i64.wrap ((i : Int) + (K : Int)) = (i : Int) + (K : Int) := by rw [IntKind.wrap_i64]; omega
    have hw3 : IntKind.i64.wrap ((i : Int) + 1) = (i : Int) + 1 := by rw [IntKind.wrap_i64]; omega
    obtain ⟨b, off, rfl, _, _, _⟩ := HR.out.row (by omega)
    have HS := hid (HR.out.sub hin)
    go_wp2_with fail
    clear d2 hw1
    go_loopw [20] (fun v wr' => wr' = wr ∧ ∃ q : Nat, q ≤ c ∧ v = .int .i64 q ∧ ∀ q', q' < q → trail xs q' (i + K) < K) (fun v _ => c - (intOf v).toNat)
    case atStart => exact ⟨rfl, 0, Nat.zero_le _, rfl, fun q' hq' => absurd hq' (Nat.not_lt_zero _)⟩
    case round =>
      obtain ⟨rfl, q, hq, rfl, hin2⟩ := hrel
      have HI := hid hin2
      clear hin2
      by_cases hqc : q < c
      · have hqi : (q : Int) < (c : Int) := by omega
        have hw4 : IntKind.i64.wrap ((q : Int) + 1) = (q : Int) + 1 := by rw [IntKind.wrap_i64]; omega
        have hb1 : (0 : Int) ≤ (i : Int) := by omega
        have hb2 : (i : Int) ≤ (i : Int) + (K : Int) := by omega
        have hb3 : (i : Int) + (K : Int) ≤ (cp : Int) := by omega
        go_wp2_with fail
        refine (rhas_any (some ⟨b, off + i, none⟩) K (cp - i) _ _ ((xs.drop i).take K) q _ HS.out (by omega)).mono ?_
        rintro e w1 ⟨rfl, rfl⟩
        have hiff := has_sub (q := (q : Int)) (show i + K ≤ xs.length by rw [hl.out]; exact hin) hK
        by_cases ht : trail xs q (i + K) < K
        · rw [decide_eq_true (hiff.2 ht)]
          have HT := hid ht
          clear hiff ht
          go_wp2_with fail
          go_roundw
          case rel => exact ⟨by trivial, q + 1, by omega, by go_num, fun q' hq' => by
            rcases Nat.lt_or_ge q' q with h | h
            · exact HI.out q' h
            · obtain rfl : q' = q := by omega
              exact HT.out⟩
          case measure => simp [intOf]; omega
        · rw [decide_eq_false (fun h => ht (hiff.1 h))]
          have E := hid (show decide (FairP c xs (K : Int)) = false from decide_eq_false (fun h => by have := h.2 (i + K) (by rw [hl.out]; omega) q hqc; omega))
          clear hiff ht
          go_wp2
          go_ret
          exact ⟨ret_bool E.out.symm, rfl⟩
      · obtain rfl : q = c := by omega
        have hnn : ¬ ((q : Int) < (q : Int)) := by omega
        go_wp2_with fail
        go_roundw
        case rel => exact ⟨by trivial, i + 1, by omega, by go_num, fun j hj q' hq' => by
          rcases Nat.lt_or_ge j (i + K) with h | h
          · exact HA.out j h q' hq'
          · obtain rfl : j = i + K := by omega
            exact HI.out q' hq'⟩
        case measure => simp [intOf]; omega
set_option maxHeartbeats 2000000 in
theorem rleast_any (c : Nat) (P : Option Addr) (n cp lo hi : Nat) (xs : List Int) (LK : Int) (w : World) (h : Sl i64 0 w lo hi P n xs) (hn : n ≤ 1000000) (hc : c ≤ 8) (hcp : n ≤ cp) (hL : ∀ k : Int, FairP c xs k ↔ LK ≤ k) (h1 : 1 ≤ LK) (h2 : LK ≤ n + 1) :
    Calls Try.prog 21 #[.int .i64 c, .slice P n cp] w fun e w' => e = .returned (.int .i64 LK) ∧ w = w' := by
  have HR := hid h; have HLK := hid hL
  clear h hL
  go_enter Try.func21, Try.ntmps21
  go_wp2_with fail
  go_loopw [5] (fun v wr => wr = w ∧ ∃ k : Nat, 1 ≤ k ∧ (k : Int) ≤ LK ∧ v = .int .i64 k) (fun v _ => n + 2 - (intOf v).toNat)
  case atStart => exact ⟨rfl, 1, Nat.le_refl _, by omega, rfl⟩
  case round =>
    obtain ⟨rfl, k, hk1, hk2, rfl⟩ := hrel
    have hw3 : IntKind.i64.wrap ((k : Int) + 1) = (k : Int) + 1 := by rw [IntKind.wrap_i64]; omega
    go_wp2_with fail
    refine (rfair_any c P n cp lo hi xs k _ HR.out hn hc hcp).mono ?_
    rintro e w1 ⟨rfl, rfl⟩
    by_cases hf : LK ≤ (k : Int)
    · rw [decide_eq_true ((HLK.out k).2 hf)]
      have H1 := hid (show (k : Int) = LK by omega)
      clear hf
      go_wp2
      go_ret
      exact ⟨ret_int H1.out, rfl⟩
    · rw [decide_eq_false (fun h => hf ((HLK.out k).1 h))]
      have H1 := hid (show ((k + 1 : Nat) : Int) ≤ LK by omega)
      have H2 := hid (show k + 1 < n + 2 by omega)
      clear hf
      go_wp2_with fail
      go_roundw
      case rel => exact ⟨by trivial, k + 1, by omega, H1.out, by go_num⟩
      case measure => have := H2.out; simp [intOf]; omega
end Go.Proofs.Ytijofgbealikaaa
