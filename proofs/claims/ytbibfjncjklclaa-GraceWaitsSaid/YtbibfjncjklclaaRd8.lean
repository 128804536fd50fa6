/- afterglowref11: Right. No condition but sizes. -/
import Derived.Test.YtbibfjncjklclaaRd7
namespace Go.Proofs.Ytbibfjncjklclaa
open Go.RowKit Go.Shelf Go.Maps

def RowR (now : Int) (ns os : List Int) (i : Nat) : Prop :=
  0 ≤ ns[i]?.getD 0 ∧ ns[i]?.getD 0 ≤ 8 ∧ (ns[i]?.getD 0 = 0 → os[i]?.getD 0 = 0) ∧ (0 < ns[i]?.getD 0 → 1 ≤ os[i]?.getD 0 ∧ os[i]?.getD 0 ≤ now) ∧ ∀ j, j < i → os[i]?.getD 0 ≠ 0 → os[j]?.getD 0 ≠ os[i]?.getD 0
theorem mem_sec {ns os : List Int} {a : Int} : ∀ {k : Nat}, a ∈ (secL ns os k).map Prod.snd ↔ ∃ i, i < k ∧ 0 < ns[i]?.getD 0 ∧ a = os[i]?.getD 0
  | 0 => by simp [secL]
  | k + 1 => by
    have ih := mem_sec (ns := ns) (os := os) (a := a) (k := k)
    rw [secL]
    split
    · rename_i h
      rw [List.map_append, List.mem_append, ih]
      constructor
      · rintro (⟨i, h1, h2⟩ | h2)
        · exact ⟨i, by omega, h2⟩
        · simp at h2; exact ⟨k, by omega, h, h2⟩
      · rintro ⟨i, h1, h2, h3⟩
        by_cases e : i < k
        · exact .inl ⟨i, e, h2, h3⟩
        · obtain rfl : i = k := by omega
          exact .inr (by simp [h3])
    · rename_i h
      rw [ih]
      constructor
      · rintro ⟨i, h1, h2⟩; exact ⟨i, by omega, h2⟩
      · rintro ⟨i, h1, h2, h3⟩
        by_cases e : i < k
        · exact ⟨i, e, h2, h3⟩
        · obtain rfl : i = k := by omega
          exact absurd h2 h
theorem ats_iff {now : Int} {ns os : List Int} : ∀ {k : Nat}, (∀ i, i < k → RowOk ns os i) → (AtsOk now ((secL ns os k).map Prod.snd) ↔ ∀ i, i < k → RowR now ns os i)
  | 0, _ => by simp [secL, AtsOk]
  | k + 1, hr => by
    have ih := ats_iff (now := now) (ns := ns) (os := os) (k := k) (fun i hi => hr i (by omega))
    have hk := hr k (by omega)
    obtain ⟨r1, r2, r3⟩ := hk
    rw [secL]
    by_cases h : 0 < ns[k]?.getD 0
    · rw [if_pos h, List.map_append, show List.map Prod.snd [((k : Int), os[k]?.getD 0)] = [os[k]?.getD 0] from rfl, atsOk_snoc, ih]
      constructor
      · rintro ⟨h1, h2, h3, h4⟩ i hi
        by_cases e : i < k
        · exact h1 i e
        · obtain rfl : i = k := by omega
          refine ⟨r1, r2, r3, fun _ => ⟨h2, h3⟩, fun j hj hne heq => ?_⟩
          by_cases hj0 : 0 < ns[j]?.getD 0
          · exact h4 (mem_sec.2 ⟨j, hj, hj0, heq.symm⟩)
          · have := (hr j (by omega)).2.2 (by have := (hr j (by omega)).1; omega)
            omega
      · intro hall
        refine ⟨fun i hi => hall i (by omega), ((hall k (by omega)).2.2.2.1 h).1, ((hall k (by omega)).2.2.2.1 h).2, fun hm => ?_⟩
        obtain ⟨j, h1, h2, h3⟩ := mem_sec.1 hm
        have := ((hall k (by omega)).2.2.2.1 h).1
        exact (hall k (by omega)).2.2.2.2 j h1 (by omega) h3.symm
    · rw [if_neg h, ih]
      constructor
      · intro hall i hi
        by_cases e : i < k
        · exact hall i e
        · obtain rfl : i = k := by omega
          have h0 : ns[i]?.getD 0 = 0 := by omega
          exact ⟨r1, r2, r3, fun h' => absurd h' h, fun j _ hne => absurd (r3 h0) hne⟩
      · exact fun hall i hi => hall i (by omega)
theorem good_iff {now : Int} {ns os : List Int} : Good now ns os ↔ Shape now ns os ∧ ∀ i, i < ns.length → RowR now ns os i := by
  unfold Good
  constructor
  · rintro ⟨h1, h2, h3⟩; exact ⟨h1, (ats_iff h2).1 h3⟩
  · rintro ⟨h1, h2⟩
    have hr : ∀ i, i < ns.length → RowOk ns os i := fun i hi => ⟨(h2 i hi).1, (h2 i hi).2.1, (h2 i hi).2.2.1⟩
    exact ⟨h1, hr, (ats_iff hr).2 h2⟩

set_option maxRecDepth 10000 in
set_option maxHeartbeats 4000000 in
theorem right_any (now : Int) (A : Option Addr) (n c : Nat) (B : Option Addr) (m d : Nat) (ns os : List Int) (w : World) (h : Rds w A n c B m d ns os) :
    Calls Try.prog 13 #[rv now A n c B m d] w fun e w' => e = .returned (.bool (decide (Good now ns os))) ∧ Below w.heap.size w w' := by
  have hB := hid (below_box w (.cells (rcs now A n c B m d) 24))
  have h0 := h.box (.cells (rcs now A n c B m d) 24)
  have P := Blk.new w 24 (rcs now A n c B m d)
  obtain ⟨k0, k1, k2, kf⟩ := P.cells3
  have HL := hid h.lenx; have HL' := hid h.leny
  have hn := h.hn; have hm := h.hm
  have HP := hid P; have HR := hid h0
  clear h0 h P
  have no : ¬ Good now ns os → decide (Good now ns os) = false := fun h => decide_eq_false h
  have NO := hid no; clear no
  by_cases h1 : n < 1
  · have E := hid (NO.out (fun hg => by have := hg.1.1; have := HL.out; omega))
    have h1i : (n : Int) < 1 := by omega
    go_enter Try.func13, Try.ntmps13
    go_wp2
    go_ret
    exact ⟨ret_bool E.out.symm, hB.out⟩
  have h1i : ¬ (n : Int) < 1 := by omega
  by_cases h2 : 8 < n
  · have E := hid (NO.out (fun hg => by have := hg.1.2.1; have := HL.out; omega))
    have h2i : (8 : Int) < (n : Int) := by omega
    go_enter Try.func13, Try.ntmps13
    go_wp2
    go_ret
    exact ⟨ret_bool E.out.symm, hB.out⟩
  have h2i : ¬ (8 : Int) < (n : Int) := by omega
  by_cases h3 : m = n
  · subst h3
    by_cases h4 : now < 0
    · have E := hid (NO.out (fun hg => by have := hg.1.2.2.2.1; omega))
      go_enter Try.func13, Try.ntmps13
      go_wp2
      go_ret
      exact ⟨ret_bool E.out.symm, hB.out⟩
    by_cases h5 : 2147483647 < now
    · have E := hid (NO.out (fun hg => by have := hg.1.2.2.2.2; omega))
      go_enter Try.func13, Try.ntmps13
      go_wp2
      go_ret
      exact ⟨ret_bool E.out.symm, hB.out⟩
    have HS : Hid (Shape now ns os) := hid (by have := HL.out; have := HL'.out; unfold Shape; omega)
    clear k0 k1 k2 kf
    obtain ⟨k0, k1, k2, kf⟩ := HP.out.cells3
    go_enter Try.func13, Try.ntmps13
    go_wp2_with fail
    clear k0 k1 k2 kf
    generalize w.alloc (.cells #[.int .i64 now, .slice A m c, .slice B m d] 24) = W0 at *
    go_loopw [39] (fun i wr => ∃ k : Nat, k ≤ m ∧ i = .int .i64 k ∧ (∀ j, j < k → RowR now ns os j) ∧ wr = W0) (fun i _ => m - (intOf i).toNat)
    case atStart => exact ⟨0, Nat.zero_le _, rfl, fun j h => absurd h (Nat.not_lt_zero _), rfl⟩
    case round =>
      obtain ⟨k, hk, rfl, hall, rfl⟩ := hrel
      have HALL := hid hall
      clear hall
      by_cases hlt : k < m
      · obtain ⟨k0, k1, k2, kf⟩ := HP.out.cells3
        obtain ⟨b, off, rfl, _, _, hc⟩ := HR.out.hx.row (by omega)
        have g : wr.cell? ⟨b, off + k, none⟩ = some (.int .i64 (ns[k]?.getD 0)) := hc k hlt
        obtain ⟨b', off', rfl, _, _, hc'⟩ := HR.out.hy.row (by omega)
        have g' : wr.cell? ⟨b', off' + k, none⟩ = some (.int .i64 (os[k]?.getD 0)) := hc' k hlt
        have HC' := hid hc'
        clear hc hc'
        obtain ⟨x, hX⟩ : ∃ x, x = ns[k]?.getD 0 := ⟨_, rfl⟩
        obtain ⟨y, hY⟩ : ∃ y, y = os[k]?.getD 0 := ⟨_, rfl⟩
        rw [← hX] at g
        rw [← hY] at g'
        have HX := hid hX; have HY := hid hY
        have HROW : Hid (RowR now ns os k ↔ (0 ≤ x ∧ x ≤ 8 ∧ (x = 0 → y = 0) ∧ (0 < x → 1 ≤ y ∧ y ≤ now) ∧ ∀ j, j < k → y ≠ 0 → os[j]?.getD 0 ≠ y)) := hid (by unfold RowR; rw [← hX, ← hY])
        have HBAD : Hid (¬ RowR now ns os k → decide (Good now ns os) = false) := hid (fun hb => NO.out (fun hg => hb ((good_iff.1 hg).2 k (by have := HL.out; omega))))
        clear hX hY
        by_cases e1 : x < 0
        · have E := hid (HBAD.out (fun hr => by have := HROW.out.1 hr; omega))
          go_wp2
          go_ret
          exact ⟨ret_bool E.out.symm, hB.out⟩
        by_cases e2 : 8 < x
        · have E := hid (HBAD.out (fun hr => by have := HROW.out.1 hr; omega))
          go_wp2
          go_ret
          exact ⟨ret_bool E.out.symm, hB.out⟩
        by_cases e3 : x = 0
        · subst e3
          by_cases e4 : y = 0
          · subst e4
            have E := hid (HROW.out.2 ⟨by omega, by omega, fun _ => rfl, fun h => absurd h (by omega), fun j _ h => absurd rfl h⟩)
            go_wp2
            go_loopw [78] (fun i wr' => ∃ j : Nat, j ≤ k ∧ i = .int .i64 j ∧ wr' = wr) (fun i _ => k - (intOf i).toNat)
            case atStart => exact ⟨0, Nat.zero_le _, rfl, rfl⟩
            case round =>
              obtain ⟨j, hj, rfl, rfl⟩ := hrel
              by_cases hjlt : j < k
              · go_wp2
                go_roundw
                case rel => exact ⟨j + 1, by omega, by go_num, trivial⟩
                case measure => simp [intOf]; omega
              · obtain rfl : j = k := by omega
                go_wp2
                go_roundw
                case rel => exact ⟨j + 1, by omega, by go_num, below_succ HALL.out E.out, trivial⟩
                case measure => simp [intOf]; omega
          · have E := hid (HBAD.out (fun hr => e4 ((HROW.out.1 hr).2.2.1 rfl)))
            have e4' : (y != 0) = true := by simpa using e4
            go_wp2
            go_ret
            exact ⟨ret_bool E.out.symm, hB.out⟩
        · have e3' : (x == 0) = false := by simpa using e3
          have hx0 : 0 < x := by omega
          by_cases e4 : y < 1
          · have E := hid (HBAD.out (fun hr => by have := (HROW.out.1 hr).2.2.2.1 hx0; omega))
            go_wp2
            go_ret
            exact ⟨ret_bool E.out.symm, hB.out⟩
          by_cases e5 : now < y
          · have E := hid (HBAD.out (fun hr => by have := (HROW.out.1 hr).2.2.2.1 hx0; omega))
            go_wp2
            go_ret
            exact ⟨ret_bool E.out.symm, hB.out⟩
          have hy0 : (y != 0) = true := by simp; omega
          go_wp2
          go_loopw [78] (fun i wr' => ∃ j : Nat, j ≤ k ∧ i = .int .i64 j ∧ (∀ l, l < j → os[l]?.getD 0 ≠ y) ∧ wr' = wr) (fun i _ => k - (intOf i).toNat)
          case atStart => exact ⟨0, Nat.zero_le _, rfl, fun j h => absurd h (Nat.not_lt_zero _), rfl⟩
          case round =>
            obtain ⟨j, hj, rfl, hno, rfl⟩ := hrel
            have HNO := hid hno; clear hno
            by_cases hjlt : j < k
            · have g2 := HC'.out j (by omega)
              obtain ⟨z, hZ⟩ : ∃ z, z = os[j]?.getD 0 := ⟨_, rfl⟩
              rw [← hZ] at g2
              have HZ := hid hZ; clear hZ
              by_cases e6 : z = y
              · have E := hid (HBAD.out (fun hr => (HROW.out.1 hr).2.2.2.2 j hjlt (by omega) (HZ.out.symm.trans e6)))
                have e6' : (z == y) = true := by simp [e6]
                clear e6
                go_wp2
                go_ret
                exact ⟨ret_bool E.out.symm, hB.out⟩
              · have e6' : (z == y) = false := by simp [e6]
                go_wp2
                go_roundw
                case rel => exact ⟨j + 1, by omega, by go_num, below_succ HNO.out (by rw [← HZ.out]; exact e6), trivial⟩
                case measure => simp [intOf]; omega
            · obtain rfl : j = k := by omega
              have E := hid (HROW.out.2 ⟨by omega, by omega, fun h => absurd h e3, fun _ => ⟨by omega, by omega⟩, fun l hl _ => HNO.out l hl⟩)
              go_wp2
              go_roundw
              case rel => exact ⟨j + 1, by omega, by go_num, below_succ HALL.out E.out, trivial⟩
              case measure => simp [intOf]; omega
      · obtain rfl : k = m := by omega
        have E := hid (show decide (Good now ns os) = true from decide_eq_true (good_iff.2 ⟨HS.out, by rw [HL.out]; exact HALL.out⟩))
        go_wp2
        go_ret
        exact ⟨ret_bool E.out.symm, hB.out⟩
  · have E := hid (NO.out (fun hg => by have := hg.1.2.2.1; have := HL.out; have := HL'.out; omega))
    have h3i : ((m : Int) != (n : Int)) = true := by simp; omega
    clear h3
    go_enter Try.func13, Try.ntmps13
    go_wp2
    go_ret
    exact ⟨ret_bool E.out.symm, hB.out⟩
end Go.Proofs.Ytbibfjncjklclaa
