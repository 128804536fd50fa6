/- afterglowref02: Kind, In, All, Right, Same. No condition but sizes. -/
import Derived.Test.YtnkaajkdjbdpaaaMPl
import Derived.BigQuiet
namespace Go.Proofs.Ytnkaajkdjbdpaaa
open Go.RowKit
def InP (n : Nat) (fr mn : Int) : Prop := 1 ≤ mn ∧ 0 ≤ fr ∧ fr < n ∧ mn ≤ n - fr
instance {n : Nat} {fr mn : Int} : Decidable (InP n fr mn) := by unfold InP; infer_instance
set_option maxHeartbeats 2000000 in
theorem rright_any (A : Option Addr) (n c : Nat) (B : Option Addr) (m d : Nat) (f : Bool) (ws : List Int) (ls : List Bool) (w : World) (h : Mem w A n c B m d ws ls) :
    Calls Try.prog 25 #[mv A n c B m d f] w fun e w' => e = .returned (.bool (decide (MGood ws ls))) ∧ Below w.heap.size w w' := by
  have hB := below_box w (.cells (mcs A n c B m d f) 44)
  have HR := hid (h.step hB)
  have HB := hid hB
  obtain ⟨k0, k1, k2, kf⟩ := (Blk.new w 44 (mcs A n c B m d f)).cells3
  have hl := hid h.lenx; have hl' := hid h.leny
  have hn := h.hn; have hm := h.hm
  have NO : Hid (¬ MShape ws ls → decide (MGood ws ls) = false) := hid (fun hh => decide_eq_false (fun hg => hh hg.1))
  clear h hB
  by_cases h1 : n < 1
  · have E := hid (NO.out (fun hg => by have := hg.1; have := hl.out; omega))
    have h1i : (n : Int) < 1 := by omega
    go_enter Try.func25, Try.ntmps25
    go_wp2
    go_ret
    exact ⟨ret_bool E.out.symm, HB.out⟩
  by_cases h2 : 4096 < n
  · have E := hid (NO.out (fun hg => by have := hg.2.1; have := hl.out; omega))
    have h1i : decide ((n : Int) < 1) = false := decide_eq_false (by omega)
    have h2i : (4096 : Int) < (n : Int) := by omega
    clear h1
    go_enter Try.func25, Try.ntmps25
    go_wp2
    go_ret
    exact ⟨ret_bool E.out.symm, HB.out⟩
  by_cases h3 : m = n
  · subst h3
    have h1i : decide ((m : Int) < 1) = false := decide_eq_false (by omega)
    have h2i : decide ((4096 : Int) < (m : Int)) = false := decide_eq_false (by omega)
    have hsh : Hid (MShape ws ls) := hid (by have := hl.out; have := hl'.out; unfold MShape; omega)
    obtain ⟨b, off, rfl, _, _, hc⟩ := HR.out.hx.row (by omega)
    obtain ⟨b', off', rfl, _, _, hc'⟩ := HR.out.hy.row (by omega)
    have hnn : ((m : Int) != (m : Int)) = false := by simp
    clear h1 h2
    go_enter Try.func25, Try.ntmps25
    go_wp2_with fail
    go_loopw [27] (fun i wr => ∃ j : Nat, j ≤ m ∧ i = .int .i64 j ∧ (∀ k, k < j → wordOk ws ls k = true) ∧ wr = w.alloc (.cells #[.slice (some ⟨b, off, none⟩) m c, .slice (some ⟨b', off', none⟩) m d, .bool f] 44)) (fun i _ => m - (intOf i).toNat)
    case atStart => exact ⟨0, Nat.zero_le _, rfl, fun k hk => absurd hk (Nat.not_lt_zero _), rfl⟩
    case round =>
      obtain ⟨j, hj, rfl, hall, rfl⟩ := hrel
      have HA := hid hall
      clear hall
      by_cases hjl : j < m
      · have g := hc j hjl
        have g' := hc' j hjl
        obtain ⟨x, hX⟩ : ∃ x, x = ws[j]?.getD 0 := ⟨_, rfl⟩
        obtain ⟨y, hY⟩ : ∃ y, y = ls[j]?.getD false := ⟨_, rfl⟩
        rw [← hX] at g
        rw [← hY] at g'
        have hWO := hid (show wordOk ws ls j = (y || x == 0 || x == poison) by unfold wordOk; rw [← hX, ← hY])
        have GOOD : Hid (wordOk ws ls j = true → ∀ k, k < j + 1 → wordOk ws ls k = true) := hid (fun hw k hk => by
          rcases Nat.lt_succ_iff_lt_or_eq.1 hk with h | h
          · exact HA.out k h
          · subst h; exact hw)
        have BAD : Hid (wordOk ws ls j = false → decide (MGood ws ls) = false) := hid (fun hw => decide_eq_false (fun hg => by
          have := hg.2 j (by rw [hl.out]; exact hjl)
          rw [hw] at this; cases this))
        clear hX hY hc hc'
        cases y
        · by_cases hx0 : x = 0
          · have hw := hid (show wordOk ws ls j = true from hWO.out.trans (by simp [hx0]))
            have e1 : (x != 0) = false := by simp [hx0]
            clear hx0
            go_wp2
            go_roundw
            case rel => exact ⟨j + 1, by omega, by go_num, GOOD.out hw.out, trivial⟩
            case measure => simp [intOf]; omega
          · have e1 : (x != 0) = true := by simpa using hx0
            by_cases hxp : x = 18369900232523579118
            · have hw := hid (show wordOk ws ls j = true from hWO.out.trans (by simp [hxp, poison]))
              have e2 : (x != 18369900232523579118) = false := by simp [hxp]
              clear hx0 hxp
              go_wp2
              go_roundw
              case rel => exact ⟨j + 1, by omega, by go_num, GOOD.out hw.out, trivial⟩
              case measure => simp [intOf]; omega
            · have E := hid (BAD.out (hWO.out.trans (by simp [hx0, poison, hxp])))
              have e2 : (x != 18369900232523579118) = true := by simpa using hxp
              clear hx0 hxp
              go_wp2
              go_ret
              exact ⟨ret_bool E.out.symm, HB.out⟩
        · have hw := hid (show wordOk ws ls j = true from hWO.out.trans (by simp))
          go_wp2
          go_roundw
          case rel => exact ⟨j + 1, by omega, by go_num, GOOD.out hw.out, trivial⟩
          case measure => simp [intOf]; omega
      · obtain rfl : j = m := by omega
        have E := hid (show decide (MGood ws ls) = true from decide_eq_true ⟨hsh.out, by rw [hl.out]; exact HA.out⟩)
        go_wp2
        go_ret
        exact ⟨ret_bool E.out.symm, HB.out⟩
  · have E := hid (NO.out (fun hg => by have := hg.2.2; have := hl.out; have := hl'.out; omega))
    have h1i : decide ((n : Int) < 1) = false := decide_eq_false (by omega)
    have h2i : decide ((4096 : Int) < (n : Int)) = false := decide_eq_false (by omega)
    have h3i : ((m : Int) != (n : Int)) = true := by simp; omega
    clear h1 h2 h3
    go_enter Try.func25, Try.ntmps25
    go_wp2
    go_ret
    exact ⟨ret_bool E.out.symm, HB.out⟩
set_option maxHeartbeats 4000000 in
theorem rmsame_any (A : Option Addr) (n c : Nat) (B : Option Addr) (m d : Nat) (f : Bool) (ws : List Int) (ls : List Bool) (A' : Option Addr) (n' c' : Nat) (B' : Option Addr) (m' d' : Nat) (f' : Bool) (ws' : List Int) (ls' : List Bool) (w : World) (h : Mem w A n c B m d ws ls) (h' : Mem w A' n' c' B' m' d' ws' ls') :
    Calls Try.prog 27 #[mv A n c B m d f, mv A' n' c' B' m' d' f'] w fun e w' => e = .returned (.bool (sameM (ws, ls, f) (ws', ls', f'))) ∧ Below w.heap.size w w' := by
  have hbx := below_then (below_box w (.cells (mcs A n c B m d f) 44)) (below_box _ (.cells (mcs A' n' c' B' m' d' f') 44))
  have HR := hid (h.step hbx); have HR' := hid (h'.step hbx)
  have P := (Blk.new w 44 (mcs A n c B m d f)).step (below_box _ (.cells (mcs A' n' c' B' m' d' f') 44))
  have P' := Blk.new2 w 44 (mcs A' n' c' B' m' d' f') (.cells (mcs A n c B m d f) 44)
  have HBX := hid hbx
  obtain ⟨k0, k1, k2, kf⟩ := P.cells3
  obtain ⟨r0, r1, r2, rf⟩ := P'.cells3
  have hl1 := hid h.lenx; have hl2 := hid h.leny; have hl3 := hid h'.lenx; have hl4 := hid h'.leny
  have hn := h.hn; have hm := h.hm
  have NO : Hid (¬ (f = f' ∧ ws = ws' ∧ ls = ls') → sameM (ws, ls, f) (ws', ls', f') = false) := hid (fun hh => decide_eq_false hh)
  clear h h' hbx P P'
  by_cases h1 : n = n'
  · subst h1
    have e1 : ((n : Int) != (n : Int)) = false := by simp
    by_cases h2 : m = m'
    · subst h2
      have e2 : ((m : Int) != (m : Int)) = false := by simp
      by_cases h3 : f = f'
      · subst h3
        have e3 : (f != f) = false := by simp
        have e5 : (f == f) = true := by simp
        go_enter Try.func27, Try.ntmps27
        go_wp2_with fail
        go_loopw [35] (fun i wr => ∃ j q : Nat, j ≤ n ∧ i = .int .i64 j ∧ (∀ k, k < j → ws[k]?.getD 0 = ws'[k]?.getD 0) ∧ wr = ((w.alloc (.cells (mcs A n c B m d f) 44)).alloc (.cells (mcs A' n c' B' m d' f) 44)).drewN q) (fun i _ => n - (intOf i).toNat)
        case atStart => exact ⟨0, 0, Nat.zero_le _, rfl, fun k hk => absurd hk (Nat.not_lt_zero _), rfl⟩
        case round =>
          obtain ⟨j, q, hj, rfl, hall, rfl⟩ := hrel
          have HA := hid hall
          clear hall
          by_cases hjl : j < n
          · obtain ⟨b, off, rfl, _, _, hc⟩ := HR.out.hx.row (by omega)
            obtain ⟨b', off', rfl, _, _, hc'⟩ := HR'.out.hx.row (by omega)
            have g := hc j hjl
            have g' := hc' j hjl
            obtain ⟨x, hX⟩ : ∃ x, x = ws[j]?.getD 0 := ⟨_, rfl⟩
            obtain ⟨y, hY⟩ : ∃ y, y = ws'[j]?.getD 0 := ⟨_, rfl⟩
            rw [← hX] at g
            rw [← hY] at g'
            have HXX := hid hX; have HYY := hid hY
            clear hX hY hc hc'
            by_cases hxy : x = y
            · have e4 : (x != y) = false := by simp [hxy]
              have e5 : (x == y) = true := by simp [hxy]
              have HN := hid (below_succ HA.out (by rw [← HXX.out, ← HYY.out]; exact hxy))
              clear hxy
              go_wp2
              (first | go_quiet (fail) | skip)
              go_wp2
              go_roundw
              case rel => exact ⟨j + 1, _, by omega, by go_num, HN.out, rfl⟩
              case measure => simp [intOf]; omega
            · have e4 : (x != y) = true := by simpa using hxy
              have e5 : (x == y) = false := by simpa using hxy
              have E := hid (NO.out (fun hh => hxy (by rw [HXX.out, HYY.out, hh.2.1])))
              clear hxy
              go_wp2
              (first | go_quiet (fail) | skip)
              go_wp2
              go_ret
              exact ⟨ret_bool E.out.symm, by first | exact HBX.out | (rw [World.drewN_drewN]; exact below_drewN HBX.out _) | exact below_drewN HBX.out _⟩
          · obtain rfl : j = n := by omega
            have hw := hid (ext_getDg 0 hl1.out hl3.out HA.out)
            clear HA
            go_wp2_with fail
            go_loopw [51] (fun i wx => ∃ j' q' : Nat, j' ≤ m ∧ i = .int .i64 j' ∧ (∀ k, k < j' → ls[k]?.getD false = ls'[k]?.getD false) ∧ wx = ((w.alloc (.cells (mcs A j c B m d f) 44)).alloc (.cells (mcs A' j c' B' m d' f) 44)).drewN q') (fun i _ => m - (intOf i).toNat)
            case atStart => exact ⟨0, q, Nat.zero_le _, rfl, fun k hk => absurd hk (Nat.not_lt_zero _), rfl⟩
            case round =>
              obtain ⟨j', q', hj', rfl, hall, rfl⟩ := hrel
              have HA := hid hall
              clear hall
              by_cases hjl' : j' < m
              · obtain ⟨b, off, rfl, _, _, hc⟩ := HR.out.hy.row (by omega)
                obtain ⟨b', off', rfl, _, _, hc'⟩ := HR'.out.hy.row (by omega)
                have g := hc j' hjl'
                have g' := hc' j' hjl'
                obtain ⟨x, hX⟩ : ∃ x, x = ls[j']?.getD false := ⟨_, rfl⟩
                obtain ⟨y, hY⟩ : ∃ y, y = ls'[j']?.getD false := ⟨_, rfl⟩
                rw [← hX] at g
                rw [← hY] at g'
                have HXX := hid hX; have HYY := hid hY
                clear hX hY hc hc'
                by_cases hxy : x = y
                · have e4 : (x != y) = false := by simp [hxy]
                  have e5 : (x == y) = true := by simp [hxy]
                  have HN := hid (below_succ HA.out (by rw [← HXX.out, ← HYY.out]; exact hxy))
                  clear hxy
                  go_wp2
                  (first | go_quiet (fail) | skip)
                  go_wp2
                  go_roundw
                  case rel => exact ⟨j' + 1, _, by omega, by go_num, HN.out, rfl⟩
                  case measure => simp [intOf]; omega
                · have e4 : (x != y) = true := by simpa using hxy
                  have e5 : (x == y) = false := by simpa using hxy
                  have E := hid (NO.out (fun hh => hxy (by rw [HXX.out, HYY.out, hh.2.2])))
                  clear hxy
                  go_wp2
                  (first | go_quiet (fail) | skip)
                  go_wp2
                  go_ret
                  exact ⟨ret_bool E.out.symm, by first | exact HBX.out | (rw [World.drewN_drewN]; exact below_drewN HBX.out _) | exact below_drewN HBX.out _⟩
              · obtain rfl : j' = m := by omega
                have E := hid (show sameM (ws, ls, f) (ws', ls', f) = true from decide_eq_true ⟨rfl, hw.out, ext_getDg false hl2.out hl4.out HA.out⟩)
                go_wp2
                go_ret
                exact ⟨ret_bool E.out.symm, by first | exact HBX.out | exact below_drewN HBX.out _⟩
      · have e3 : (f != f') = true := by simpa using h3
        have e5 : (f == f') = false := by simpa using h3
        have E := hid (NO.out (fun hh => h3 hh.1))
        clear h3
        go_enter Try.func27, Try.ntmps27
        go_wp2
        go_ret
        exact ⟨ret_bool E.out.symm, HBX.out⟩
    · have e2 : ((m : Int) != (m' : Int)) = true := by simp; omega
      have E := hid (NO.out (fun hh => h2 (by rw [← hl2.out, hh.2.2, hl4.out])))
      clear h2
      go_enter Try.func27, Try.ntmps27
      go_wp2
      go_ret
      exact ⟨ret_bool E.out.symm, HBX.out⟩
  · have e1 : ((n : Int) != (n' : Int)) = true := by simp; omega
    have E := hid (NO.out (fun hh => h1 (by rw [← hl1.out, hh.2.1, hl3.out])))
    clear h1
    go_enter Try.func27, Try.ntmps27
    go_wp2
    go_ret
    exact ⟨ret_bool E.out.symm, HBX.out⟩

end Go.Proofs.Ytnkaajkdjbdpaaa
