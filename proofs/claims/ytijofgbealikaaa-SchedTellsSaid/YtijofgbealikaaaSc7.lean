/- afterglowref04: Right, Wait, has. Waits, plainly: what sched tells is what the document says. No condition but sizes. -/
import Derived.Test.YtijofgbealikaaaSc6
namespace Go.Proofs.Ytijofgbealikaaa
open Go.RowKit
/-- a CPU's wait behind the first j picks -/
def trail (xs : List Int) (c : Int) : Nat → Nat
  | 0 => 0
  | j + 1 => if xs[j]?.getD 0 = c then 0 else trail xs c j + 1
theorem trail_succ (xs : List Int) (c : Int) (j : Nat) : trail xs c (j + 1) = if xs[j]?.getD 0 = c then 0 else trail xs c j + 1 := rfl
def waitR (xs : List Int) (c : Int) : Nat := trail xs c xs.length
theorem trail_le (xs : List Int) (c : Int) : ∀ j, trail xs c j ≤ j
  | 0 => Nat.le_refl _
  | j + 1 => by have := trail_le xs c j; unfold trail; split <;> omega
theorem pickL_get {l : List Int} {p k : Nat} (hk : k < l.length) : (pickL l p)[k]?.getD 0 = if p = k then 0 else l[k]?.getD 0 + 1 := by
  unfold pickL
  rw [List.getElem?_set, List.length_map]
  by_cases h : p = k
  · subst h; rw [if_pos rfl, if_pos hk, if_pos rfl]; rfl
  · rw [if_neg h, if_neg h, List.getElem?_map, List.getElem?_eq_getElem hk]; rfl
theorem wL_trail {xs : List Int} (hx : ∀ x ∈ xs, 0 ≤ x ∧ x < 8) {k : Nat} (hk : k < 8) : ∀ j, j ≤ xs.length → (wL (xs.take j))[k]?.getD 0 = trail xs k j
  | 0, _ => by
    rw [List.take_zero]
    show (List.replicate 8 (0 : Int))[k]?.getD 0 = ((trail xs k 0 : Nat) : Int)
    rw [List.getElem?_replicate]
    split <;> rfl
  | j + 1, h => by
    have ih := wL_trail hx hk j (by omega)
    rw [take_succI h, wL_snoc, pickL_get (by rw [wL_len]; exact hk), ih]
    have hb : 0 ≤ xs[j]?.getD 0 ∧ xs[j]?.getD 0 < 8 := all_at.1 hx j h
    rw [trail_succ]
    by_cases e : xs[j]?.getD 0 = (k : Int)
    · rw [if_pos e, if_pos (by rw [e]; rfl)]; rfl
    · rw [if_neg e, if_neg (by omega)]; omega
theorem wL_wait {xs : List Int} (hx : ∀ x ∈ xs, 0 ≤ x ∧ x < 8) {k : Nat} (hk : k < 8) : (wL xs)[k]?.getD 0 = waitR xs k := by
  have := wL_trail hx hk xs.length (Nat.le_refl _)
  rwa [List.take_of_length_le (Nat.le_refl _)] at this
set_option maxHeartbeats 2000000 in
theorem rwait_any (P : Option Addr) (n c lo hi : Nat) (xs : List Int) (q : Int) (w : World) (h : Sl i64 0 w lo hi P n xs) (hn : n ≤ 1000000) :
    Calls Try.prog 17 #[.slice P n c, .int .i64 q] w fun e w' => e = .returned (.int .i64 (waitR xs q)) ∧ w = w' := by
  have HR := hid h
  have hl := hid h.len
  clear h
  have hw0 : IntKind.i64.wrap ((n : Int) - 1) = (n : Int) - 1 := by rw [IntKind.wrap_i64]; omega
  go_enter Try.func17, Try.ntmps17
  go_wp2_with fail
  clear hw0
  go_loopw [5, 6] (fun v i wr => wr = w ∧ ∃ j m : Nat, j ≤ n ∧ m + j ≤ n ∧ i = .int .i64 ((j : Int) - 1) ∧ v = .int .i64 m ∧ m + trail xs q j = waitR xs q) (fun _ i _ => (intOf i + 1).toNat)
  case atStart => exact ⟨rfl, n, 0, Nat.le_refl _, by omega, rfl, rfl, by rw [Nat.zero_add]; unfold waitR; rw [hl.out]⟩
  case round =>
    obtain ⟨rfl, j, m, hj, hmj, rfl, rfl, he⟩ := hrel
    have HE := hid he
    clear he
    rcases j with _ | j
    · have d1 : decide ((0 : Int) ≤ ((0 : Nat) : Int) - 1) = false := by decide
      have H1 := hid (show (m : Int) = (waitR xs q : Int) by rw [← HE.out]; rfl)
      go_wp2
      go_ret
      exact ⟨ret_int H1.out, rfl⟩
    · obtain ⟨b, off, rfl, _, hbh, hc⟩ := HR.out.row (by omega)
      obtain ⟨x, hx⟩ : ∃ x, x = xs[j]?.getD 0 := ⟨_, rfl⟩
      have f0 := hc j (by omega)
      rw [← hx] at f0
      have HX := hid hx
      have e0 : ((j + 1 : Nat) : Int) - 1 = (j : Int) := by omega
      rw [e0]
      have d1 : decide ((0 : Int) ≤ (j : Int)) = true := by simp
      have hji : (j : Int) < (n : Int) := by omega
      have hw1 : IntKind.i64.wrap ((j : Int) - 1) = (j : Int) - 1 := by rw [IntKind.wrap_i64]; omega
      have hw2 : IntKind.i64.wrap ((m : Int) + 1) = (m : Int) + 1 := by rw [IntKind.wrap_i64]; omega
      clear hx hc
      by_cases hq : x = q
      · have d2 : (x != q) = false := by simpa using hq
        have H1 := hid (show (m : Int) = (waitR xs q : Int) by rw [← HE.out, trail_succ]; rw [if_pos (by rw [← HX.out]; exact hq)]; simp)
        go_wp2
        go_ret
        exact ⟨ret_int H1.out, rfl⟩
      · have d2 : (x != q) = true := by simpa using hq
        have H1 := hid (show m + 1 + trail xs q j = waitR xs q by rw [← HE.out, trail_succ]; rw [if_neg (by rw [← HX.out]; exact hq)]; omega)
        go_wp2
        go_roundw
        case rel => exact ⟨by trivial, j, m + 1, by omega, by omega, by go_num, by go_num, H1.out⟩
        case measure => simp [intOf]
theorem rhas_any (P : Option Addr) (n c lo hi : Nat) (xs : List Int) (q : Int) (w : World) (h : Sl i64 0 w lo hi P n xs) (hn : n ≤ 1000000) :
    Calls Try.prog 34 #[.slice P n c, .int .i64 q] w fun e w' => e = .returned (.bool (decide (waitR xs q < n))) ∧ w = w' := by
  have HR := hid h
  clear h
  go_enter Try.func34, Try.ntmps34
  go_wp2_with fail
  refine (rwait_any P n c lo hi xs q w HR.out hn).mono ?_
  rintro e w1 ⟨rfl, rfl⟩
  go_wp2
  go_ret
  exact ⟨ret_bool (by simp), rfl⟩
set_option maxHeartbeats 2000000 in
theorem rsright_any (c : Int) (P : Option Addr) (n k lo hi : Nat) (xs : List Int) (w : World) (h : Sl i64 0 w lo hi P n xs) (hn : n ≤ 1000000) :
    Calls Try.prog 10 #[.int .i64 c, .slice P n k] w fun e w' => e = .returned (.bool (decide (SchR c xs))) ∧ w = w' := by
  have HR := hid h
  have hl := hid h.len
  clear h
  go_enter Try.func10, Try.ntmps10
  go_wp2_with fail
  go_loopw [9] (fun i wr => wr = w ∧ ∃ j : Nat, j ≤ n ∧ i = .int .i64 j ∧ ∀ k, k < j → inC c (xs[k]?.getD 0)) (fun i _ => n - (intOf i).toNat)
  case atStart => exact ⟨rfl, 0, Nat.zero_le _, rfl, fun k hk => absurd hk (Nat.not_lt_zero _)⟩
  case round =>
    obtain ⟨rfl, j, hj, rfl, hall⟩ := hrel
    have HA := hid hall
    clear hall
    by_cases hjn : j < n
    · obtain ⟨b, off, rfl, _, hbh, hc⟩ := HR.out.row (by omega)
      obtain ⟨x, hx⟩ : ∃ x, x = xs[j]?.getD 0 := ⟨_, rfl⟩
      have f0 := hc j hjn
      rw [← hx] at f0
      have HX := hid hx
      have hji : (j : Int) < (n : Int) := by omega
      have hw2 : IntKind.i64.wrap ((j : Int) + 1) = (j : Int) + 1 := by rw [IntKind.wrap_i64]; omega
      clear hx hc
      by_cases h1 : x < 0
      · have d1 : decide (x < 0) = true := decide_eq_true h1
        have E := hid (show decide (SchR c xs) = false from decide_eq_false (fun h => by have := all_at.1 h.2 j (by rw [hl.out]; exact hjn); rw [← HX.out] at this; omega))
        clear h1
        go_wp2
        go_ret
        exact ⟨ret_bool E.out.symm, rfl⟩
      have d1 : decide (x < 0) = false := decide_eq_false h1
      by_cases h2 : c ≤ x
      · have d2 : decide (c ≤ x) = true := decide_eq_true h2
        have E := hid (show decide (SchR c xs) = false from decide_eq_false (fun h => by have := all_at.1 h.2 j (by rw [hl.out]; exact hjn); rw [← HX.out] at this; omega))
        clear h1 h2
        go_wp2
        go_ret
        exact ⟨ret_bool E.out.symm, rfl⟩
      have d2 : decide (c ≤ x) = false := decide_eq_false h2
      have HIN := hid (show inC c x from ⟨by omega, by omega⟩)
      clear h1 h2
      go_wp2
      go_roundw
      case rel => exact ⟨by trivial, j + 1, by omega, by go_num, below_succ HA.out (by rw [← HX.out]; exact HIN.out)⟩
      case measure => simp [intOf]; omega
    · obtain rfl : j = n := by omega
      have hnn : ¬ ((j : Int) < (j : Int)) := by omega
      have HQ := hid (show ∀ x ∈ xs, 0 ≤ x ∧ x < c from all_at.2 fun k hk => HA.out k (by rw [← hl.out]; exact hk))
      by_cases h1 : 1 ≤ c
      · have d1 : decide (1 ≤ c) = true := decide_eq_true h1
        have E := hid (show decide (SchR c xs) = decide (c ≤ 8) from decide_eq_decide.2 ⟨fun h => h.1.2, fun h => ⟨⟨h1, h⟩, HQ.out⟩⟩)
        clear h1
        go_wp2
        go_ret
        exact ⟨ret_bool E.out.symm, rfl⟩
      · have d1 : decide (1 ≤ c) = false := decide_eq_false h1
        have E := hid (show decide (SchR c xs) = false from decide_eq_false (fun h => h1 h.1.1))
        clear h1
        go_wp2
        go_ret
        exact ⟨ret_bool E.out.symm, rfl⟩
end Go.Proofs.Ytijofgbealikaaa
