/- slices.Clone and slices.Equal at rows of words and of flags. No condition but sizes. -/
import Derived.Test.YtbibfjncjklclaaProg
import Derived.Test.YtbibfjncjklclaaKitA
namespace Go.Proofs.Ytbibfjncjklclaa
open Go.RowKit
abbrev u64v : Int → Value := .int .u64
abbrev blv : Bool → Value := .bool
theorem info_bool : (Try.prog.info? 4).map (fun i => (i.zero, i.size, i.bytes)) = some (some (.bool false), 1, 1) := by kernel_rfl
theorem below_succ {p : Nat → Prop} {k : Nat} (h : ∀ j, j < k → p j) (hk : p k) : ∀ j, j < k + 1 → p j := fun j hj => by
  by_cases e : j < k
  · exact h j e
  · obtain rfl : j = k := by omega
    exact hk
theorem ext_getDg {α : Type} (d : α) {xs ys : List α} {n : Nat} (hx : xs.length = n) (hy : ys.length = n) (h : ∀ k, k < n → xs[k]?.getD d = ys[k]?.getD d) : xs = ys := by
  apply List.ext_getElem (by omega)
  intro k h1 h2
  have := h k (by omega)
  rwa [List.getElem?_eq_getElem h1, List.getElem?_eq_getElem h2] at this
set_option maxHeartbeats 400000 in
theorem clone_bool (A : Option Addr) (n c lo : Nat) (xs : List _) (w : World) (h : Sl blv false w lo w.heap.size A n xs) (hn : n ≤ 1000000) :
    Calls Try.prog 39 #[.slice A n c] w fun e w' => ∃ A' c', e = .returned (.slice A' n c') ∧ Ow blv w' w.heap.size 4 A' n c' xs ∧ Below w.heap.size w w' := by
  obtain ⟨i0, hi0, hz00, hz01, hz02⟩ := info_parts info_bool
  have hq := fun W a n c => run_eqnil (P := Try.prog) (t := 25) Try.underlying25 W a n c
  rcases A with _ | ad
  · obtain ⟨rfl, rfl⟩ := h.none_
    go_enter Try.func39, Try.ntmps39
    go_wp2
    go_ret
    exact ⟨none, 0, rfl, Ow.nil _ _ _, Below.refl _ _⟩
  · go_enter Try.func39, Try.ntmps39
    go_wp2_with (at_builtin; refine wpList_app blv false _ rfl _ _ 25 rfl w.heap.size 4 i0 _ 1 Try.underlying25 hi0 hz00 hz01 hz02 rfl _ _ _ [] rfl (Ow.empty w _ _ (Nat.le_refl _)) lo w.heap.size (some ad) n c xs rfl (h.alloc (Nat.le_refl _) _) (fun _ => rfl) (by simp only [maxLen]; omega) (by omega) (by simp) ?_; intro A1 c1 w1 hown1 hg1 hat1; simp only [Nat.zero_add, List.nil_append] at hown1)
    go_ret
    refine ⟨A1, c1, by simp, hown1, ?_⟩
    exact ((Below.refl _ w).alloc (Nat.le_refl _) _).grown hg1 (by simp) (fun k hk => by simp [Value.ownBlock] at hk; omega)

set_option maxHeartbeats 1000000 in
theorem equal_bool (A B : Option Addr) (n c m c' lo hi lo' hi' : Nat) (xs ys : List _) (w : World) (hx : Sl blv false w lo hi A n xs) (hy : Sl blv false w lo' hi' B m ys) (hn : n ≤ 1000000) (hm : m ≤ 1000000) :
    Calls Try.prog 37 #[.slice A n c, .slice B m c'] w fun e w' => e = .returned (.bool (decide (xs = ys))) ∧ Below w.heap.size w w' := by
  by_cases hnm : n = m
  · subst hnm
    go_enter Try.func37, Try.ntmps37
    go_wp2
    go_loopw [13] (fun i wr => ∃ k q : Nat, k ≤ n ∧ i = .int .i64 k ∧ (∀ j, j < k → xs[j]?.getD false = ys[j]?.getD false) ∧ wr = w.drewN q) (fun i _ => n - (intOf i).toNat)
    case atStart => exact ⟨0, 0, Nat.zero_le _, rfl, fun j hj => absurd hj (Nat.not_lt_zero _), rfl⟩
    case round =>
      obtain ⟨k, q, hk, rfl, hall, rfl⟩ := hrel
      have HA := hid hall; clear hall
      have hL := hid hx.len; have hL' := hid hy.len
      by_cases hlt : k < n
      · obtain ⟨b, off, rfl, _, _, hc1⟩ := hx.row (by omega)
        obtain ⟨b', off', rfl, _, _, hc2⟩ := hy.row (by omega)
        clear hx hy
        have g1 := hc1 k hlt
        have g2 := hc2 k hlt
        clear hc1 hc2
        obtain ⟨x, hX⟩ : ∃ x, x = xs[k]?.getD false := ⟨_, rfl⟩
        obtain ⟨y, hY⟩ : ∃ y, y = ys[k]?.getD false := ⟨_, rfl⟩
        rw [← hX] at g1
        rw [← hY] at g2
        have HX := hid hX; have HY := hid hY
        clear hX hY
        by_cases hxy : x = y
        · have e1 : (x != y) = false := by simp [hxy]
          have e2 : (x == y) = true := by simp [hxy]
          have HXY := hid hxy
          clear hxy
          go_wp2
          go_quiet (fail)
          go_wp2
          go_roundw
          case rel => exact ⟨k + 1, _, by omega, by go_num, below_succ HA.out (by rw [← HX.out, ← HY.out]; exact HXY.out), rfl⟩
          case measure => simp [intOf]; omega
        · have e1 : (x != y) = true := by simp [hxy]
          have e2 : (x == y) = false := by simp [hxy]
          have HD := hid (show decide (xs = ys) = false from decide_eq_false (by rintro rfl; exact hxy (by rw [HX.out, HY.out])))
          clear hxy
          go_wp2
          go_quiet (fail)
          go_wp2
          go_ret
          exact ⟨ret_bool HD.out.symm, by rw [World.drewN_drewN]; exact below_drewN (Below.refl _ _) _⟩
      · obtain rfl : k = n := by omega
        have HD := hid (show decide (xs = ys) = true from decide_eq_true (ext_getDg false hL.out hL'.out HA.out))
        clear hx hy
        go_wp2
        go_ret
        exact ⟨ret_bool HD.out.symm, below_drewN (Below.refl _ _) _⟩
  · have HD := hid (show decide (xs = ys) = false from decide_eq_false (by rintro rfl; exact hnm (hx.len.symm.trans hy.len)))
    have e1 : ((n : Int) != (m : Int)) = true := by simp; omega
    clear hnm
    go_enter Try.func37, Try.ntmps37
    go_wp2
    go_ret
    exact ⟨ret_bool HD.out.symm, Below.refl _ _⟩

end Go.Proofs.Ytbibfjncjklclaa
