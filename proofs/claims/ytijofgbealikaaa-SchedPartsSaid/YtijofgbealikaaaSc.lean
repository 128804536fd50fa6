/- package sched: Check. No condition but sizes. -/
import Derived.Test.YtijofgbealikaaaSli
import Derived.Test.YtijofgbealikaaaKitA
namespace Go.Proofs.Ytijofgbealikaaa
open Go.RowKit
abbrev ptr (g : Nat) : Value := .pointer (some ⟨g, 0, none⟩)
/-- picks of so many CPUs -/
def SchR (c : Int) (l : List Int) : Prop := (1 ≤ c ∧ c ≤ 8) ∧ ∀ x ∈ l, 0 ≤ x ∧ x < c
instance {c : Int} {l : List Int} : Decidable (SchR c l) := by unfold SchR; infer_instance
theorem all_at {l : List Int} {p : Int → Prop} : (∀ x ∈ l, p x) ↔ ∀ k, k < l.length → p (l[k]?.getD 0) := by
  constructor
  · intro h k hk; rw [List.getElem?_eq_getElem hk]; exact h _ (List.getElem_mem hk)
  · intro h x hx
    obtain ⟨k, hk, rfl⟩ := List.mem_iff_getElem.1 hx
    have := h k hk
    rwa [List.getElem?_eq_getElem hk] at this
theorem known_any (c : Int) (w : World) : Calls Try.prog 28 #[.int .i64 c] w fun e w' => e = .returned (.bool (decide (1 ≤ c ∧ c ≤ 8))) ∧ w = w' := by
  by_cases h1 : 1 ≤ c
  · have d1 : decide (1 ≤ c) = true := decide_eq_true h1
    have E := hid (show decide (1 ≤ c ∧ c ≤ 8) = decide (c ≤ 8) from decide_eq_decide.2 ⟨fun h => h.2, fun h => ⟨h1, h⟩⟩)
    clear h1
    go_enter Try.func28, Try.ntmps28
    go_wp2
    go_ret
    exact ⟨ret_bool E.out.symm, rfl⟩
  · have d1 : decide (1 ≤ c) = false := decide_eq_false h1
    have E := hid (show decide (1 ≤ c ∧ c ≤ 8) = false from decide_eq_false (fun h => h1 h.1))
    clear h1
    go_enter Try.func28, Try.ntmps28
    go_wp2
    go_ret
    exact ⟨ret_bool E.out.symm, rfl⟩
theorem chk1_any (p c : Int) (g : Nat) (w : World) (h : Blk w g 3 #[.int .i64 c]) : Calls Try.prog 27 #[.int .i64 p, ptr g] w fun e w' => e = .returned (.bool (decide (p < 0 ∨ c ≤ p))) ∧ w = w' := by
  obtain ⟨y0, yf⟩ := h.cells1
  by_cases h1 : p < 0
  · have d1 : decide (p < 0) = true := decide_eq_true h1
    have E := hid (show decide (p < 0 ∨ c ≤ p) = true from decide_eq_true (.inl h1))
    clear h1
    go_enter Try.func27, Try.ntmps27
    go_wp2
    go_ret
    exact ⟨ret_bool E.out.symm, rfl⟩
  · have d1 : decide (p < 0) = false := decide_eq_false h1
    have E := hid (show decide (p < 0 ∨ c ≤ p) = decide (c ≤ p) from decide_eq_decide.2 ⟨fun h => h.resolve_left h1, .inr⟩)
    clear h1
    go_enter Try.func27, Try.ntmps27
    go_wp2
    go_ret
    exact ⟨ret_bool E.out.symm, rfl⟩
def inC (c x : Int) : Prop := 0 ≤ x ∧ x < c
set_option maxHeartbeats 1000000 in
theorem ixchk_any (A : Option Addr) (n k lo hi : Nat) (xs : List Int) (g : Nat) (c : Int) (w : World) (h : Sl i64 0 w lo hi A n xs) (hhi : hi ≤ w.heap.size) (hn : n ≤ 1000000) (hP : Blk w g 3 #[.int .i64 c]) :
    Calls Try.prog 39 #[.slice A n k, .func (.func 27) #[] #[ptr g]] w fun e w' => (∃ v, e = .returned (.int .i64 v) ∧ decide (0 ≤ v) = !decide (∀ x ∈ xs, 0 ≤ x ∧ x < c)) ∧ Below w.heap.size w w' := by
  have eg := enters_of Try.func27 (by kernel_rfl) rfl
  have HR := hid h; have PQ := hid hP
  have hl := hid h.len
  clear h hP
  go_enter Try.func39, Try.ntmps39
  go_wp2_with fail
  go_loopw [5, 8] (fun _ i wr => ∃ j : Nat, j ≤ n ∧ i = .int .i64 j ∧ Below w.heap.size w wr ∧ ∀ k, k < j → inC c (xs[k]?.getD 0)) (fun _ i _ => n - (intOf i).toNat)
  case atStart => exact ⟨0, Nat.zero_le _, rfl, Below.refl _ _, fun k hk => absurd hk (Nat.not_lt_zero _)⟩
  case round =>
    obtain ⟨j, hj, rfl, hbr, hall⟩ := hrel
    have HA := hid hall; have HB := hid hbr
    clear hall hbr
    by_cases hjn : j < n
    · obtain ⟨b, off, rfl, _, hbh, hc⟩ := HR.out.row (by omega)
      obtain ⟨x, hx⟩ : ∃ x, x = xs[j]?.getD 0 := ⟨_, rfl⟩
      have f0 := (HB.out.cell (p := ⟨b, off + j, none⟩) (by show b < _; omega)).trans (hc j hjn)
      rw [← hx] at f0
      have HX := hid hx
      have hji : (j : Int) < (n : Int) := by omega
      clear hx hc
      go_wp2_with fail
      clear f0
      refine (chk1_any x c g wr (PQ.out.step HB.out)).mono ?_
      rintro e w1 ⟨rfl, rfl⟩
      by_cases hlt : x < 0 ∨ c ≤ x
      · have HQ := hid (show decide (∀ x ∈ xs, 0 ≤ x ∧ x < c) = false from decide_eq_false (fun h => by have := all_at.1 h j (by rw [hl.out]; exact hjn); rw [← HX.out] at this; omega))
        have e1 : decide (x < 0 ∨ c ≤ x) = true := decide_eq_true hlt
        clear hlt
        rw [e1]
        clear e1
        go_wp2
        go_ret
        exact ⟨⟨_, rfl, by rw [HQ.out]; simp⟩, HB.out⟩
      · have e1 : decide (x < 0 ∨ c ≤ x) = false := decide_eq_false hlt
        rw [e1]
        have HIN := hid (show inC c x from ⟨by omega, by omega⟩)
        clear e1 hlt
        go_wp2
        go_roundw
        case rel => exact ⟨j + 1, by omega, by go_num, HB.out, below_succ HA.out (by rw [← HX.out]; exact HIN.out)⟩
        case measure => simp [intOf]; omega
    · obtain rfl : j = n := by omega
      have HQ := hid (show decide (∀ x ∈ xs, 0 ≤ x ∧ x < c) = true from decide_eq_true (all_at.2 fun k hk => HA.out k (by rw [← hl.out]; exact hk)))
      go_wp2
      go_ret
      exact ⟨⟨_, rfl, by rw [HQ.out]; simp⟩, HB.out⟩
theorem cfchk_any (A : Option Addr) (n k lo hi : Nat) (xs : List Int) (g : Nat) (c : Int) (w : World) (h : Sl i64 0 w lo hi A n xs) (hhi : hi ≤ w.heap.size) (hn : n ≤ 1000000) (hP : Blk w g 3 #[.int .i64 c]) :
    Calls Try.prog 29 #[.slice A n k, .func (.func 27) #[] #[ptr g]] w fun e w' => e = .returned (.bool (!decide (∀ x ∈ xs, 0 ≤ x ∧ x < c))) ∧ Below w.heap.size w w' := by
  have HR := hid h; have PQ := hid hP
  clear h hP
  go_enter Try.func29, Try.ntmps29
  go_wp2_with fail
  refine (ixchk_any A n k lo hi xs g c w HR.out hhi hn PQ.out).mono ?_
  rintro e w' ⟨⟨v, rfl, hv⟩, hb⟩
  have HV := hid hv; have HB := hid hb
  clear hv hb
  go_wp2
  go_ret
  exact ⟨ret_bool HV.out, HB.out⟩
def scheckC (c : Int) (l : List Int) : Int := if SchR c l then 0 else 140
set_option maxHeartbeats 1000000 in
theorem scheck_any (c : Int) (A : Option Addr) (n k : Nat) (xs : List Int) (w : World) (h : Sl i64 0 w 0 w.heap.size A n xs) (hn : n ≤ 1000000) :
    Calls Try.prog 11 #[.int .i64 c, .slice A n k] w fun e w' => e = .returned (.int .i64 (scheckC c xs)) ∧ Below w.heap.size w w' := by
  have NO := hid (show ¬ SchR c xs → scheckC c xs = 140 from fun h => if_neg h)
  have YES := hid (show SchR c xs → scheckC c xs = 0 from fun h => if_pos h)
  have HR := hid h; have HB := hid (Below.refl w.heap.size w)
  clear h
  have bx := below_box w (.cells #[.int .i64 c] 3)
  replace HR := hid (HR.out.step bx); replace HB := hid (below_then HB.out bx)
  clear bx
  have PC := hid (Blk.new w 3 #[.int .i64 c])
  obtain ⟨y00, yf0⟩ := PC.out.cells1
  go_enter Try.func11, Try.ntmps11
  go_wp2_with fail
  refine (known_any c _).mono ?_
  rintro e w1 ⟨rfl, rfl⟩
  by_cases h1 : 1 ≤ c ∧ c ≤ 8
  rotate_left
  · rw [decide_eq_false h1]
    have E := hid (NO.out (fun h => h1 h.1))
    clear h1
    go_wp2
    go_ret
    exact ⟨ret_int E.out.symm, HB.out⟩
  rw [decide_eq_true h1]
  have H1 := hid h1
  clear h1
  go_wp2_with fail
  refine (cfchk_any A n k _ _ xs w.heap.size c _ HR.out (Nat.le_refl _) hn PC.out).mono ?_
  rintro e w1 ⟨rfl, hb⟩
  replace HR := hid (HR.out.step hb); replace PC := hid (PC.out.step hb); replace HB := hid (below_then HB.out hb)
  by_cases h2 : ∀ x ∈ xs, 0 ≤ x ∧ x < c
  · rw [decide_eq_true h2]
    have E := hid (YES.out ⟨H1.out, h2⟩)
    clear h2 hb
    go_wp2
    go_ret
    exact ⟨ret_int E.out.symm, HB.out⟩
  · rw [decide_eq_false h2]
    have E := hid (NO.out (fun h => h2 h.2))
    clear h2 hb
    go_wp2
    go_ret
    exact ⟨ret_int E.out.symm, HB.out⟩
end Go.Proofs.Ytijofgbealikaaa
