/- afterglowlaw: own of memories. No condition but sizes. -/
import Derived.Test.YtnkaajkdjbdpaaaMe2
import Derived.Deep.RegionHeld3
namespace Go.Proofs.Ytnkaajkdjbdpaaa
open Go.RowKit
def LOwnPost (w : World) (k l : Nat) (f : Bool) (xs : List Int) (ys : List Bool) (e : Ending) (w' : World) : Prop :=
  ∃ A c B d, e = .returned (mv A k c B l d f) ∧ Ow u64v w' w.heap.size 27 A k c xs ∧ Ow blv w' w.heap.size 4 B l d ys ∧ Below w.heap.size w w'

set_option maxRecDepth 10000 in
set_option maxHeartbeats 4000000 in
theorem lown_any (A : Option Addr) (n c : Nat) (B : Option Addr) (m d : Nat) (f : Bool) (lo : Nat) (xs : List Int) (ys : List Bool) (w : World) (hx : Sl u64v 0 w lo w.heap.size A n xs) (hy : Sl blv false w lo w.heap.size B m ys) (hnc : n ≤ c) (hmd : m ≤ d) :
    Calls Try.prog 18 #[mv A n c B m d f] w (LOwnPost w (min n 48) (min m 48) f (xs.take 48) (ys.take 48)) := by
  by_cases hn9 : n ≤ 48
  · by_cases hm9 : m ≤ 48
    · rw [show min n 48 = n by omega, show min m 48 = m by omega]
      have jn1 : (0 : Int) ≤ (n : Int) := Int.natCast_nonneg _
      have jn2 : (n : Int) ≤ (c : Int) := by omega
      have jn3 : ¬ (48 : Int) < (n : Int) := by omega
      have jm1 : (0 : Int) ≤ (m : Int) := Int.natCast_nonneg _
      have jm2 : (m : Int) ≤ (d : Int) := by omega
      have jm3 : ¬ (48 : Int) < (m : Int) := by omega
      have HX := hid (show Sl u64v 0 w lo w.heap.size A n (xs.take 48) by rw [List.take_of_length_le (by rw [hx.len]; omega)]; exact hx)
      have HY := hid (show Sl blv false w lo w.heap.size B m (ys.take 48) by rw [List.take_of_length_le (by rw [hy.len]; omega)]; exact hy)
      clear hx hy
      have hn6 : n ≤ 1000000 := by omega
      have hm6 : m ≤ 1000000 := by omega
      go_enter Try.func18, Try.ntmps18
      go_wp2_with fail
      generalize hW0 : (w.alloc (.cells #[.slice A n c, .slice B m d, .bool f] 44)).alloc (.cells #[.slice none 0 0, .slice none 0 0, .bool false] 44) = W0
      have hz0 : W0.heap.size = w.heap.size + 2 := by rw [← hW0]; simp
      have B0 : Blk W0 w.heap.size 44 #[.slice A n c, .slice B m d, .bool f] := hW0 ▸ (Blk.new w _ _).alloc _
      have B1 : Blk W0 (w.heap.size + 1) 44 #[.slice none 0 0, .slice none 0 0, .bool false] := hW0 ▸ Blk.new2 w _ _ _
      have hbw : Below w.heap.size w W0 := by rw [← hW0]; exact ((Below.refl _ w).alloc (Nat.le_refl _) _).alloc (by simp) _
      have hle : w.heap.size ≤ W0.heap.size := by omega
      have hlt : w.heap.size + 1 < W0.heap.size := by omega
      have HLE := hid hle; have HLT := hid hlt
      have HXW : Hid (∀ W, Below W0.heap.size W0 W → Sl u64v 0 W lo W.heap.size A n (xs.take 48)) := hid (fun W hb => ((HX.out.below hbw (Nat.le_refl _)).below hb (by omega)).mono (Nat.le_refl _) (by have := hb.size; omega))
      have HYW : Hid (∀ W, Below W0.heap.size W0 W → Sl blv false W lo W.heap.size B m (ys.take 48)) := hid (fun W hb => ((HY.out.below hbw (Nat.le_refl _)).below hb (by omega)).mono (Nat.le_refl _) (by have := hb.size; omega))
      have HS : Hid (∀ W, Below w.heap.size w W → Blk W w.heap.size 44 #[.slice A n c, .slice B m d, .bool f] → (Below w.heap.size w W ∧ W.cell? ⟨w.heap.size, 0, none⟩ = some (.slice A n c) ∧ W.cell? ⟨w.heap.size, 1, none⟩ = some (.slice B m d) ∧ W.cell? ⟨w.heap.size, 2, none⟩ = some (.bool f))) := hid (fun W hw hb => ⟨hw, hb.cells3.1, hb.cells3.2.1, hb.cells3.2.2.1⟩)
      have HBW : Hid (∀ W, Below W0.heap.size W0 W → Below w.heap.size w W ∧ Blk W w.heap.size 44 #[.slice A n c, .slice B m d, .bool f] ∧ Blk W (w.heap.size + 1) 44 #[.slice none 0 0, .slice none 0 0, .bool false]) := hid (fun W hq => ⟨hbw.trans (hq.mono hle), B0.step hq, B1.step hq⟩)
      clear HX HY hW0 hz0
      have jn4 : ¬ (48 : Int) < (n : Int) := by omega
      have jm4 : ¬ (48 : Int) < (m : Int) := by omega
      go_region_held3 (fun w' => Below w.heap.size w w' ∧ w'.cell? ⟨w.heap.size, 0, none⟩ = some (.slice A n c) ∧ w'.cell? ⟨w.heap.size, 1, none⟩ = some (.slice B m d) ∧ w'.cell? ⟨w.heap.size, 2, none⟩ = some (.bool f))
        (first | (exact HS.out _ hbw.drew B0.drew) | (exact HS.out _ hbw1 hB1) | (exact HS.out _ hbw2 hB2) | (exact HS.out _ (((hbw2.setCell (by simp) _).setCell (by simp) _).setCell (by simp) _) (((hB2.far (by simp) _).far (by simp) _).far (by simp) _)) | (go_keep; done))
        (first
          | (go_at_call 11; go_split_ands; (with_reducible refine (clone_u64 A n c lo (xs.take 48) W0.drew (HXW.out _ (Below.refl _ _).drew) hn6).mono ?_); rintro e w1 ⟨A', c', rfl, hown1, hb⟩; have hq1 := below_then (Below.refl W0.heap.size W0).drew hb; obtain ⟨hbw1, hB1, hC1⟩ := HBW.out w1 hq1; dsimp only; have jm4 : ¬ (48 : Int) < (m : Int) := by omega)
          | (go_at_call 23; go_split_ands; (with_reducible refine (clone_bool B m d lo (ys.take 48) w1 (HYW.out _ hq1) hm6).mono ?_); rintro e w2 ⟨B', d', rfl, hown2, hb2⟩; have hq2 := below_then hq1 hb2; obtain ⟨hbw2, hB2, hC2⟩ := HBW.out w2 hq2; obtain ⟨r0, r1, r2, rf⟩ := hC2.cells3))
      all_goals
        have hsz := hq1.size
        have hlt := HLT.out; have hle := HLE.out
        have hown1' := hown1.step hb2
        have HO1 := hid hown1'; have HO2 := hid hown2
        have HBW2 := hid hbw2
        clear hown1 hown2 hown1' HXW HYW HS HBW
        go_wp2
        refine bodyPost_ret (v := mv A' n c' B' m d' f) (by simp [results, Try.results18, go_sem, r0, r1, r2]) rfl ⟨A', c', B', d', rfl, ?_, ?_, ?_⟩
        · exact (((HO1.out.setFar (p := ⟨w.heap.size + 1, 0, none⟩) (.inl (hlt)) (.slice A' n c')).setFar (p := ⟨w.heap.size + 1, 1, none⟩) (.inl (hlt)) (.slice B' m d')).setFar (p := ⟨w.heap.size + 1, 2, none⟩) (.inl (hlt)) (.bool f)).mono hle
        · exact (((HO2.out.setFar (p := ⟨w.heap.size + 1, 0, none⟩) (.inl (Nat.lt_of_lt_of_le hlt hsz)) (.slice A' n c')).setFar (p := ⟨w.heap.size + 1, 1, none⟩) (.inl (Nat.lt_of_lt_of_le hlt hsz)) (.slice B' m d')).setFar (p := ⟨w.heap.size + 1, 2, none⟩) (.inl (Nat.lt_of_lt_of_le hlt hsz)) (.bool f)).mono (Nat.le_trans hle hsz)
        · exact ((HBW2.out.setCell (by simp) _).setCell (by simp) _).setCell (by simp) _
    · rw [show min n 48 = n by omega, show min m 48 = 48 by omega]
      have jn1 : (0 : Int) ≤ (n : Int) := Int.natCast_nonneg _
      have jn2 : (n : Int) ≤ (c : Int) := by omega
      have jn3 : ¬ (48 : Int) < (n : Int) := by omega
      have jm2 : (48 : Int) ≤ (d : Int) := by omega
      have jm3 : (48 : Int) < (m : Int) := by omega
      have HX := hid (show Sl u64v 0 w lo w.heap.size A n (xs.take 48) by rw [List.take_of_length_le (by rw [hx.len]; omega)]; exact hx)
      have HY := hid (hy.take (show 48 ≤ m by omega))
      clear hx hy
      have hn6 : n ≤ 1000000 := by omega
      have hm6 : 48 ≤ 1000000 := by omega
      go_enter Try.func18, Try.ntmps18
      go_wp2_with fail
      generalize hW0 : (w.alloc (.cells #[.slice A n c, .slice B m d, .bool f] 44)).alloc (.cells #[.slice none 0 0, .slice none 0 0, .bool false] 44) = W0
      have hz0 : W0.heap.size = w.heap.size + 2 := by rw [← hW0]; simp
      have B0 : Blk W0 w.heap.size 44 #[.slice A n c, .slice B m d, .bool f] := hW0 ▸ (Blk.new w _ _).alloc _
      have B1 : Blk W0 (w.heap.size + 1) 44 #[.slice none 0 0, .slice none 0 0, .bool false] := hW0 ▸ Blk.new2 w _ _ _
      have hbw : Below w.heap.size w W0 := by rw [← hW0]; exact ((Below.refl _ w).alloc (Nat.le_refl _) _).alloc (by simp) _
      have hle : w.heap.size ≤ W0.heap.size := by omega
      have hlt : w.heap.size + 1 < W0.heap.size := by omega
      have HLE := hid hle; have HLT := hid hlt
      have HXW : Hid (∀ W, Below W0.heap.size W0 W → Sl u64v 0 W lo W.heap.size A n (xs.take 48)) := hid (fun W hb => ((HX.out.below hbw (Nat.le_refl _)).below hb (by omega)).mono (Nat.le_refl _) (by have := hb.size; omega))
      have HYW : Hid (∀ W, Below W0.heap.size W0 W → Sl blv false W lo W.heap.size B 48 (ys.take 48)) := hid (fun W hb => ((HY.out.below hbw (Nat.le_refl _)).below hb (by omega)).mono (Nat.le_refl _) (by have := hb.size; omega))
      have HS : Hid (∀ W, Below w.heap.size w W → Blk W w.heap.size 44 #[.slice A n c, .slice B m d, .bool f] → (Below w.heap.size w W ∧ W.cell? ⟨w.heap.size, 0, none⟩ = some (.slice A n c) ∧ W.cell? ⟨w.heap.size, 1, none⟩ = some (.slice B m d) ∧ W.cell? ⟨w.heap.size, 2, none⟩ = some (.bool f))) := hid (fun W hw hb => ⟨hw, hb.cells3.1, hb.cells3.2.1, hb.cells3.2.2.1⟩)
      have HBW : Hid (∀ W, Below W0.heap.size W0 W → Below w.heap.size w W ∧ Blk W w.heap.size 44 #[.slice A n c, .slice B m d, .bool f] ∧ Blk W (w.heap.size + 1) 44 #[.slice none 0 0, .slice none 0 0, .bool false]) := hid (fun W hq => ⟨hbw.trans (hq.mono hle), B0.step hq, B1.step hq⟩)
      clear HX HY hW0 hz0
      have jn4 : ¬ (48 : Int) < (n : Int) := by omega
      have jm4 : (48 : Int) < (m : Int) := by omega
      go_region_held3 (fun w' => Below w.heap.size w w' ∧ w'.cell? ⟨w.heap.size, 0, none⟩ = some (.slice A n c) ∧ w'.cell? ⟨w.heap.size, 1, none⟩ = some (.slice B m d) ∧ w'.cell? ⟨w.heap.size, 2, none⟩ = some (.bool f))
        (first | (exact HS.out _ hbw.drew B0.drew) | (exact HS.out _ hbw1 hB1) | (exact HS.out _ hbw2 hB2) | (exact HS.out _ (((hbw2.setCell (by simp) _).setCell (by simp) _).setCell (by simp) _) (((hB2.far (by simp) _).far (by simp) _).far (by simp) _)) | (go_keep; done))
        (first
          | (go_at_call 11; go_split_ands; (with_reducible refine (clone_u64 A n c lo (xs.take 48) W0.drew (HXW.out _ (Below.refl _ _).drew) hn6).mono ?_); rintro e w1 ⟨A', c', rfl, hown1, hb⟩; have hq1 := below_then (Below.refl W0.heap.size W0).drew hb; obtain ⟨hbw1, hB1, hC1⟩ := HBW.out w1 hq1; dsimp only; have jm4 : (48 : Int) < (m : Int) := by omega)
          | (go_at_call 23; go_split_ands; (with_reducible refine (clone_bool B 48 d lo (ys.take 48) w1 (HYW.out _ hq1) hm6).mono ?_); rintro e w2 ⟨B', d', rfl, hown2, hb2⟩; have hq2 := below_then hq1 hb2; obtain ⟨hbw2, hB2, hC2⟩ := HBW.out w2 hq2; obtain ⟨r0, r1, r2, rf⟩ := hC2.cells3))
      all_goals
        have hsz := hq1.size
        have hlt := HLT.out; have hle := HLE.out
        have hown1' := hown1.step hb2
        have HO1 := hid hown1'; have HO2 := hid hown2
        have HBW2 := hid hbw2
        clear hown1 hown2 hown1' HXW HYW HS HBW
        go_wp2
        refine bodyPost_ret (v := mv A' n c' B' 48 d' f) (by simp [results, Try.results18, go_sem, r0, r1, r2]) rfl ⟨A', c', B', d', rfl, ?_, ?_, ?_⟩
        · exact (((HO1.out.setFar (p := ⟨w.heap.size + 1, 0, none⟩) (.inl (hlt)) (.slice A' n c')).setFar (p := ⟨w.heap.size + 1, 1, none⟩) (.inl (hlt)) (.slice B' 48 d')).setFar (p := ⟨w.heap.size + 1, 2, none⟩) (.inl (hlt)) (.bool f)).mono hle
        · exact (((HO2.out.setFar (p := ⟨w.heap.size + 1, 0, none⟩) (.inl (Nat.lt_of_lt_of_le hlt hsz)) (.slice A' n c')).setFar (p := ⟨w.heap.size + 1, 1, none⟩) (.inl (Nat.lt_of_lt_of_le hlt hsz)) (.slice B' 48 d')).setFar (p := ⟨w.heap.size + 1, 2, none⟩) (.inl (Nat.lt_of_lt_of_le hlt hsz)) (.bool f)).mono (Nat.le_trans hle hsz)
        · exact ((HBW2.out.setCell (by simp) _).setCell (by simp) _).setCell (by simp) _
  · by_cases hm9 : m ≤ 48
    · rw [show min n 48 = 48 by omega, show min m 48 = m by omega]
      have jn2 : (48 : Int) ≤ (c : Int) := by omega
      have jn3 : (48 : Int) < (n : Int) := by omega
      have jm1 : (0 : Int) ≤ (m : Int) := Int.natCast_nonneg _
      have jm2 : (m : Int) ≤ (d : Int) := by omega
      have jm3 : ¬ (48 : Int) < (m : Int) := by omega
      have HX := hid (hx.take (show 48 ≤ n by omega))
      have HY := hid (show Sl blv false w lo w.heap.size B m (ys.take 48) by rw [List.take_of_length_le (by rw [hy.len]; omega)]; exact hy)
      clear hx hy
      have hn6 : 48 ≤ 1000000 := by omega
      have hm6 : m ≤ 1000000 := by omega
      go_enter Try.func18, Try.ntmps18
      go_wp2_with fail
      generalize hW0 : (w.alloc (.cells #[.slice A n c, .slice B m d, .bool f] 44)).alloc (.cells #[.slice none 0 0, .slice none 0 0, .bool false] 44) = W0
      have hz0 : W0.heap.size = w.heap.size + 2 := by rw [← hW0]; simp
      have B0 : Blk W0 w.heap.size 44 #[.slice A n c, .slice B m d, .bool f] := hW0 ▸ (Blk.new w _ _).alloc _
      have B1 : Blk W0 (w.heap.size + 1) 44 #[.slice none 0 0, .slice none 0 0, .bool false] := hW0 ▸ Blk.new2 w _ _ _
      have hbw : Below w.heap.size w W0 := by rw [← hW0]; exact ((Below.refl _ w).alloc (Nat.le_refl _) _).alloc (by simp) _
      have hle : w.heap.size ≤ W0.heap.size := by omega
      have hlt : w.heap.size + 1 < W0.heap.size := by omega
      have HLE := hid hle; have HLT := hid hlt
      have HXW : Hid (∀ W, Below W0.heap.size W0 W → Sl u64v 0 W lo W.heap.size A 48 (xs.take 48)) := hid (fun W hb => ((HX.out.below hbw (Nat.le_refl _)).below hb (by omega)).mono (Nat.le_refl _) (by have := hb.size; omega))
      have HYW : Hid (∀ W, Below W0.heap.size W0 W → Sl blv false W lo W.heap.size B m (ys.take 48)) := hid (fun W hb => ((HY.out.below hbw (Nat.le_refl _)).below hb (by omega)).mono (Nat.le_refl _) (by have := hb.size; omega))
      have HS : Hid (∀ W, Below w.heap.size w W → Blk W w.heap.size 44 #[.slice A n c, .slice B m d, .bool f] → (Below w.heap.size w W ∧ W.cell? ⟨w.heap.size, 0, none⟩ = some (.slice A n c) ∧ W.cell? ⟨w.heap.size, 1, none⟩ = some (.slice B m d) ∧ W.cell? ⟨w.heap.size, 2, none⟩ = some (.bool f))) := hid (fun W hw hb => ⟨hw, hb.cells3.1, hb.cells3.2.1, hb.cells3.2.2.1⟩)
      have HBW : Hid (∀ W, Below W0.heap.size W0 W → Below w.heap.size w W ∧ Blk W w.heap.size 44 #[.slice A n c, .slice B m d, .bool f] ∧ Blk W (w.heap.size + 1) 44 #[.slice none 0 0, .slice none 0 0, .bool false]) := hid (fun W hq => ⟨hbw.trans (hq.mono hle), B0.step hq, B1.step hq⟩)
      clear HX HY hW0 hz0
      have jn4 : (48 : Int) < (n : Int) := by omega
      have jm4 : ¬ (48 : Int) < (m : Int) := by omega
      go_region_held3 (fun w' => Below w.heap.size w w' ∧ w'.cell? ⟨w.heap.size, 0, none⟩ = some (.slice A n c) ∧ w'.cell? ⟨w.heap.size, 1, none⟩ = some (.slice B m d) ∧ w'.cell? ⟨w.heap.size, 2, none⟩ = some (.bool f))
        (first | (exact HS.out _ hbw.drew B0.drew) | (exact HS.out _ hbw1 hB1) | (exact HS.out _ hbw2 hB2) | (exact HS.out _ (((hbw2.setCell (by simp) _).setCell (by simp) _).setCell (by simp) _) (((hB2.far (by simp) _).far (by simp) _).far (by simp) _)) | (go_keep; done))
        (first
          | (go_at_call 11; go_split_ands; (with_reducible refine (clone_u64 A 48 c lo (xs.take 48) W0.drew (HXW.out _ (Below.refl _ _).drew) hn6).mono ?_); rintro e w1 ⟨A', c', rfl, hown1, hb⟩; have hq1 := below_then (Below.refl W0.heap.size W0).drew hb; obtain ⟨hbw1, hB1, hC1⟩ := HBW.out w1 hq1; dsimp only; have jm4 : ¬ (48 : Int) < (m : Int) := by omega)
          | (go_at_call 23; go_split_ands; (with_reducible refine (clone_bool B m d lo (ys.take 48) w1 (HYW.out _ hq1) hm6).mono ?_); rintro e w2 ⟨B', d', rfl, hown2, hb2⟩; have hq2 := below_then hq1 hb2; obtain ⟨hbw2, hB2, hC2⟩ := HBW.out w2 hq2; obtain ⟨r0, r1, r2, rf⟩ := hC2.cells3))
      all_goals
        have hsz := hq1.size
        have hlt := HLT.out; have hle := HLE.out
        have hown1' := hown1.step hb2
        have HO1 := hid hown1'; have HO2 := hid hown2
        have HBW2 := hid hbw2
        clear hown1 hown2 hown1' HXW HYW HS HBW
        go_wp2
        refine bodyPost_ret (v := mv A' 48 c' B' m d' f) (by simp [results, Try.results18, go_sem, r0, r1, r2]) rfl ⟨A', c', B', d', rfl, ?_, ?_, ?_⟩
        · exact (((HO1.out.setFar (p := ⟨w.heap.size + 1, 0, none⟩) (.inl (hlt)) (.slice A' 48 c')).setFar (p := ⟨w.heap.size + 1, 1, none⟩) (.inl (hlt)) (.slice B' m d')).setFar (p := ⟨w.heap.size + 1, 2, none⟩) (.inl (hlt)) (.bool f)).mono hle
        · exact (((HO2.out.setFar (p := ⟨w.heap.size + 1, 0, none⟩) (.inl (Nat.lt_of_lt_of_le hlt hsz)) (.slice A' 48 c')).setFar (p := ⟨w.heap.size + 1, 1, none⟩) (.inl (Nat.lt_of_lt_of_le hlt hsz)) (.slice B' m d')).setFar (p := ⟨w.heap.size + 1, 2, none⟩) (.inl (Nat.lt_of_lt_of_le hlt hsz)) (.bool f)).mono (Nat.le_trans hle hsz)
        · exact ((HBW2.out.setCell (by simp) _).setCell (by simp) _).setCell (by simp) _
    · rw [show min n 48 = 48 by omega, show min m 48 = 48 by omega]
      have jn2 : (48 : Int) ≤ (c : Int) := by omega
      have jn3 : (48 : Int) < (n : Int) := by omega
      have jm2 : (48 : Int) ≤ (d : Int) := by omega
      have jm3 : (48 : Int) < (m : Int) := by omega
      have HX := hid (hx.take (show 48 ≤ n by omega))
      have HY := hid (hy.take (show 48 ≤ m by omega))
      clear hx hy
      have hn6 : 48 ≤ 1000000 := by omega
      have hm6 : 48 ≤ 1000000 := by omega
      go_enter Try.func18, Try.ntmps18
      go_wp2_with fail
      generalize hW0 : (w.alloc (.cells #[.slice A n c, .slice B m d, .bool f] 44)).alloc (.cells #[.slice none 0 0, .slice none 0 0, .bool false] 44) = W0
      have hz0 : W0.heap.size = w.heap.size + 2 := by rw [← hW0]; simp
      have B0 : Blk W0 w.heap.size 44 #[.slice A n c, .slice B m d, .bool f] := hW0 ▸ (Blk.new w _ _).alloc _
      have B1 : Blk W0 (w.heap.size + 1) 44 #[.slice none 0 0, .slice none 0 0, .bool false] := hW0 ▸ Blk.new2 w _ _ _
      have hbw : Below w.heap.size w W0 := by rw [← hW0]; exact ((Below.refl _ w).alloc (Nat.le_refl _) _).alloc (by simp) _
      have hle : w.heap.size ≤ W0.heap.size := by omega
      have hlt : w.heap.size + 1 < W0.heap.size := by omega
      have HLE := hid hle; have HLT := hid hlt
      have HXW : Hid (∀ W, Below W0.heap.size W0 W → Sl u64v 0 W lo W.heap.size A 48 (xs.take 48)) := hid (fun W hb => ((HX.out.below hbw (Nat.le_refl _)).below hb (by omega)).mono (Nat.le_refl _) (by have := hb.size; omega))
      have HYW : Hid (∀ W, Below W0.heap.size W0 W → Sl blv false W lo W.heap.size B 48 (ys.take 48)) := hid (fun W hb => ((HY.out.below hbw (Nat.le_refl _)).below hb (by omega)).mono (Nat.le_refl _) (by have := hb.size; omega))
      have HS : Hid (∀ W, Below w.heap.size w W → Blk W w.heap.size 44 #[.slice A n c, .slice B m d, .bool f] → (Below w.heap.size w W ∧ W.cell? ⟨w.heap.size, 0, none⟩ = some (.slice A n c) ∧ W.cell? ⟨w.heap.size, 1, none⟩ = some (.slice B m d) ∧ W.cell? ⟨w.heap.size, 2, none⟩ = some (.bool f))) := hid (fun W hw hb => ⟨hw, hb.cells3.1, hb.cells3.2.1, hb.cells3.2.2.1⟩)
      have HBW : Hid (∀ W, Below W0.heap.size W0 W → Below w.heap.size w W ∧ Blk W w.heap.size 44 #[.slice A n c, .slice B m d, .bool f] ∧ Blk W (w.heap.size + 1) 44 #[.slice none 0 0, .slice none 0 0, .bool false]) := hid (fun W hq => ⟨hbw.trans (hq.mono hle), B0.step hq, B1.step hq⟩)
      clear HX HY hW0 hz0
      have jn4 : (48 : Int) < (n : Int) := by omega
      have jm4 : (48 : Int) < (m : Int) := by omega
      go_region_held3 (fun w' => Below w.heap.size w w' ∧ w'.cell? ⟨w.heap.size, 0, none⟩ = some (.slice A n c) ∧ w'.cell? ⟨w.heap.size, 1, none⟩ = some (.slice B m d) ∧ w'.cell? ⟨w.heap.size, 2, none⟩ = some (.bool f))
        (first | (exact HS.out _ hbw.drew B0.drew) | (exact HS.out _ hbw1 hB1) | (exact HS.out _ hbw2 hB2) | (exact HS.out _ (((hbw2.setCell (by simp) _).setCell (by simp) _).setCell (by simp) _) (((hB2.far (by simp) _).far (by simp) _).far (by simp) _)) | (go_keep; done))
        (first
          | (go_at_call 11; go_split_ands; (with_reducible refine (clone_u64 A 48 c lo (xs.take 48) W0.drew (HXW.out _ (Below.refl _ _).drew) hn6).mono ?_); rintro e w1 ⟨A', c', rfl, hown1, hb⟩; have hq1 := below_then (Below.refl W0.heap.size W0).drew hb; obtain ⟨hbw1, hB1, hC1⟩ := HBW.out w1 hq1; dsimp only; have jm4 : (48 : Int) < (m : Int) := by omega)
          | (go_at_call 23; go_split_ands; (with_reducible refine (clone_bool B 48 d lo (ys.take 48) w1 (HYW.out _ hq1) hm6).mono ?_); rintro e w2 ⟨B', d', rfl, hown2, hb2⟩; have hq2 := below_then hq1 hb2; obtain ⟨hbw2, hB2, hC2⟩ := HBW.out w2 hq2; obtain ⟨r0, r1, r2, rf⟩ := hC2.cells3))
      all_goals
        have hsz := hq1.size
        have hlt := HLT.out; have hle := HLE.out
        have hown1' := hown1.step hb2
        have HO1 := hid hown1'; have HO2 := hid hown2
        have HBW2 := hid hbw2
        clear hown1 hown2 hown1' HXW HYW HS HBW
        go_wp2
        refine bodyPost_ret (v := mv A' 48 c' B' 48 d' f) (by simp [results, Try.results18, go_sem, r0, r1, r2]) rfl ⟨A', c', B', d', rfl, ?_, ?_, ?_⟩
        · exact (((HO1.out.setFar (p := ⟨w.heap.size + 1, 0, none⟩) (.inl (hlt)) (.slice A' 48 c')).setFar (p := ⟨w.heap.size + 1, 1, none⟩) (.inl (hlt)) (.slice B' 48 d')).setFar (p := ⟨w.heap.size + 1, 2, none⟩) (.inl (hlt)) (.bool f)).mono hle
        · exact (((HO2.out.setFar (p := ⟨w.heap.size + 1, 0, none⟩) (.inl (Nat.lt_of_lt_of_le hlt hsz)) (.slice A' 48 c')).setFar (p := ⟨w.heap.size + 1, 1, none⟩) (.inl (Nat.lt_of_lt_of_le hlt hsz)) (.slice B' 48 d')).setFar (p := ⟨w.heap.size + 1, 2, none⟩) (.inl (Nat.lt_of_lt_of_le hlt hsz)) (.bool f)).mono (Nat.le_trans hle hsz)
        · exact ((HBW2.out.setCell (by simp) _).setCell (by simp) _).setCell (by simp) _
end Go.Proofs.Ytnkaajkdjbdpaaa
