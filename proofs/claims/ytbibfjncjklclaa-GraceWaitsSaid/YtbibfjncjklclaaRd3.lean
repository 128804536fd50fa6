/- package reader: Check. No condition but sizes. -/
import Derived.Test.YtbibfjncjklclaaRd2
namespace Go.Proofs.Ytbibfjncjklclaa
open Go.RowKit Go.Shelf Go.Maps

def Shape (now : Int) (ns os : List Int) : Prop := 1 ≤ ns.length ∧ ns.length ≤ 8 ∧ os.length = ns.length ∧ 0 ≤ now ∧ now ≤ 2147483647
def RowOk (ns os : List Int) (k : Nat) : Prop := 0 ≤ ns[k]?.getD 0 ∧ ns[k]?.getD 0 ≤ 8 ∧ (ns[k]?.getD 0 = 0 → os[k]?.getD 0 = 0)
def AtsOk (now : Int) (l : List Int) : Prop := (∀ a ∈ l, 1 ≤ a ∧ a ≤ now) ∧ l.Nodup
def Good (now : Int) (ns os : List Int) : Prop := Shape now ns os ∧ (∀ k, k < ns.length → RowOk ns os k) ∧ AtsOk now ((secL ns os ns.length).map Prod.snd)
section
variable {now : Int} {ns os l : List Int} {k : Nat}
instance : Decidable (Shape now ns os) := by unfold Shape; infer_instance
instance : Decidable (RowOk ns os k) := by unfold RowOk; infer_instance
instance : Decidable (AtsOk now l) := by unfold AtsOk; infer_instance
instance : Decidable (Good now ns os) := by unfold Good; infer_instance
end

set_option maxHeartbeats 2000000 in
theorem check_shape (now : Int) (A : Option Addr) (n c : Nat) (B : Option Addr) (m d lo : Nat) (ns os : List Int) (w : World) (hx : Sl i64 0 w lo w.heap.size A n ns) (hy : Sl i64 0 w lo w.heap.size B m os) (hn : n ≤ 1000000) (hm : m ≤ 1000000) (hs : ¬ Shape now ns os) :
    Calls Try.prog 40 #[rv now A n c B m d] w fun e w' => e = .returned (.int .i64 210) ∧ Below w.heap.size w w' := by
  have hs' : n < 1 ∨ 8 < n ∨ m ≠ n ∨ now < 0 ∨ 2147483647 < now := by
    unfold Shape at hs
    rw [hx.len, hy.len] at hs
    omega
  have h1' := fun h : ¬ n < 1 => (show ¬ (n : Int) < 1 by omega)
  clear hx hy hs
  have hB := hid (below_box w (.cells #[.int .i64 now, .slice A n c, .slice B m d] 24))
  obtain ⟨k0, k1, k2, kf⟩ := (Blk.new w 24 #[.int .i64 now, .slice A n c, .slice B m d]).cells3
  by_cases h1 : n < 1
  · have h1i : (n : Int) < 1 := by omega
    clear hs' h1'
    go_enter Try.func40, Try.ntmps40
    go_wp2_with fail
    go_step3
    go_wp2_with fail
    rw [Exit.noGoto_ret]
    go_ret
    exact ⟨rfl, hB.out⟩
  have h1i : ¬ (n : Int) < 1 := by omega
  by_cases h2 : 8 < n
  · have h2i : (8 : Int) < (n : Int) := by omega
    clear hs' h1'
    go_enter Try.func40, Try.ntmps40
    go_wp2_with fail
    go_step3
    go_wp2_with fail
    rw [Exit.noGoto_ret]
    go_ret
    exact ⟨rfl, hB.out⟩
  have h2i : ¬ (8 : Int) < (n : Int) := by omega
  by_cases h3 : m = n
  · subst h3
    by_cases h4 : now < 0
    · clear hs' h1'
      go_enter Try.func40, Try.ntmps40
      go_wp2_with fail
      go_step3
      go_wp2_with fail
      rw [Exit.noGoto_ret]
      go_ret
      exact ⟨rfl, hB.out⟩
    · have h5 : 2147483647 < now := by omega
      clear hs' h1'
      go_enter Try.func40, Try.ntmps40
      go_wp2_with fail
      go_step3
      go_wp2_with fail
      rw [Exit.noGoto_ret]
      go_ret
      exact ⟨rfl, hB.out⟩
  · have h3i : ((m : Int) == (n : Int)) = false := by simp; omega
    clear hs' h1'
    go_enter Try.func40, Try.ntmps40
    go_wp2_with fail
    go_step3
    go_wp2_with fail
    rw [Exit.noGoto_ret]
    go_ret
    exact ⟨rfl, hB.out⟩

set_option maxHeartbeats 2000000 in
theorem check_rows (now : Int) (A : Option Addr) (n c : Nat) (B : Option Addr) (d lo : Nat) (ns os : List Int) (w : World) (hx : Sl i64 0 w lo w.heap.size A n ns) (hy : Sl i64 0 w lo w.heap.size B n os) (h1 : 1 ≤ n) (h8 : n ≤ 8) (h3 : 0 ≤ now) (h4 : now ≤ 2147483647) (hs : ∃ k, k < n ∧ ¬ RowOk ns os k) :
    Calls Try.prog 40 #[rv now A n c B n d] w fun e w' => e = .returned (.int .i64 210) ∧ Below w.heap.size w w' := by
  have hB := below_then (below_then (below_box w (.cells #[.int .i64 now, .slice A n c, .slice B n d] 24)) (below_box _ (.map #[] 0))) (below_box _ (.cells #[.map (some (w.heap.size + 1))] 63))
  obtain ⟨k0, k1, k2, kf⟩ := (Blk.new w 24 #[.int .i64 now, .slice A n c, .slice B n d]).cells3
  have P := ((Blk.new w 24 #[.int .i64 now, .slice A n c, .slice B n d]).step (below_box _ (.map #[] 0))).step (below_box _ (.cells #[.map (some (w.heap.size + 1))] 63))
  have SX := (hx.mono (Nat.le_refl _) (Nat.le_refl _)).step hB
  have SY := (hy.mono (Nat.le_refl _) (Nat.le_refl _)).step hB
  have HS := hid hs
  clear hx hy hs
  have hmm := @run_makeMap Try.prog
  have i1 : ¬ (n : Int) < 1 := by omega
  have i2 : ¬ (8 : Int) < (n : Int) := by omega
  have HP := hid P; have HX := hid SX; have HY := hid SY; have HB := hid hB
  clear P SX SY hB
  go_enter Try.func40, Try.ntmps40
  go_wp2_with fail
  go_step3
  go_wp2_with fail
  clear k0 k1 k2 kf hmm
  generalize ((w.alloc (.cells #[.int .i64 now, .slice A n c, .slice B n d] 24)).alloc (.map #[] 0)).alloc (.cells #[.map (some (w.heap.size + 1))] 63) = W0 at *
  go_loopw [42] (fun i wr => ∃ k : Nat, k ≤ n ∧ i = .int .i64 k ∧ (∀ j, j < k → RowOk ns os j) ∧ wr = W0) (fun i _ => n - (intOf i).toNat)
  case atStart => exact ⟨0, Nat.zero_le _, rfl, fun j h => absurd h (Nat.not_lt_zero _), rfl⟩
  case round =>
    obtain ⟨k, hk, rfl, hall, rfl⟩ := hrel
    have HALL := hid hall
    clear hall
    by_cases hlt : k < n
    · obtain ⟨k0, k1, k2, kf⟩ := HP.out.cells3
      obtain ⟨b, off, rfl, _, _, hc⟩ := HX.out.row (by omega)
      have g : wr.cell? ⟨b, off + k, none⟩ = some (.int .i64 (ns[k]?.getD 0)) := hc k hlt
      obtain ⟨b', off', rfl, _, _, hc'⟩ := HY.out.row (by omega)
      have g' : wr.cell? ⟨b', off' + k, none⟩ = some (.int .i64 (os[k]?.getD 0)) := hc' k hlt
      clear hc hc'
      obtain ⟨x, hX⟩ : ∃ x, x = ns[k]?.getD 0 := ⟨_, rfl⟩
      obtain ⟨y, hY'⟩ : ∃ y, y = os[k]?.getD 0 := ⟨_, rfl⟩
      rw [← hX] at g
      rw [← hY'] at g'
      have HR : Hid (RowOk ns os k ↔ (0 ≤ x ∧ x ≤ 8 ∧ (x = 0 → y = 0))) := hid (by unfold RowOk; rw [← hX, ← hY'])
      clear hX hY'
      by_cases e1 : x < 0
      · go_wp2
        try rw [Exit.noGoto_ret]
        go_ret
        exact ⟨rfl, HB.out⟩
      by_cases e2 : 8 < x
      · go_wp2
        try rw [Exit.noGoto_ret]
        go_ret
        exact ⟨rfl, HB.out⟩
      by_cases e3 : x = 0
      · subst e3
        by_cases e4 : y = 0
        · subst e4
          go_wp2
          go_roundw
          case rel => exact ⟨k + 1, by omega, by go_num, below_succ HALL.out (HR.out.2 ⟨by omega, by omega, fun _ => rfl⟩), trivial⟩
          case measure => simp [intOf]; omega
        · have e4' : (y != 0) = true := by simpa using e4
          go_wp2
          try rw [Exit.noGoto_ret]
          go_ret
          exact ⟨rfl, HB.out⟩
      · have e3' : (x == 0) = false := by simpa using e3
        go_wp2
        go_roundw
        case rel => exact ⟨k + 1, by omega, by go_num, below_succ HALL.out (HR.out.2 ⟨by omega, by omega, fun h => absurd h e3⟩), trivial⟩
        case measure => simp [intOf]; omega
    · obtain rfl : k = n := by omega
      obtain ⟨j, hj, hbad⟩ := HS.out
      exact absurd (HALL.out j hj) hbad
end Go.Proofs.Ytbibfjncjklclaa
