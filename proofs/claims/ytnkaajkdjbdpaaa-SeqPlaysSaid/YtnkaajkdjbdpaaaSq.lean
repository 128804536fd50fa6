/- package seq: guards, Read, even. afterglowref06: words, Read. No condition. -/
import Derived.Test.YtnkaajkdjbdpaaaMPl
import Derived.Test.YtnkaajkdjbdpaaaKitA
import Derived.Deep.RegionHeld3
import Derived.Laws.EntriesVeiled
import Derived.BigQuiet
namespace Go.Proofs.Ytnkaajkdjbdpaaa
open Go.RowKit
def SqG (a fr mn : Int) : Prop := 0 ≤ a ∧ a ≤ 4096 ∧ 0 ≤ fr ∧ fr ≤ 4096 ∧ mn ≤ 16 ∧ (a < fr ∨ fr + mn ≤ a)
instance {a b c : Int} : Decidable (SqG a b c) := by unfold SqG; infer_instance
theorem place_any (n : Int) (w : World) : Calls Try.prog 58 #[.int .i64 n] w fun e w' => e = .returned (.bool (decide (0 ≤ n ∧ n ≤ 4096))) ∧ w = w' := by
  by_cases ha : ¬ (0 ≤ n)
  · skip
    have da : decide (0 ≤ n) = false := decide_eq_false ha
    have E := hid (show decide (0 ≤ n ∧ n ≤ 4096) = false from decide_eq_false (by omega))
    clear ha
    go_enter Try.func58, Try.ntmps58
    go_wp2
    go_ret
    exact ⟨ret_bool E.out.symm, rfl⟩
  replace ha : 0 ≤ n := Decidable.of_not_not ha
  have da : decide (0 ≤ n) = true := decide_eq_true ha
  by_cases hb : ¬ (n ≤ 4096)
  · skip
    have db : decide (n ≤ 4096) = false := decide_eq_false hb
    have E := hid (show decide (0 ≤ n ∧ n ≤ 4096) = false from decide_eq_false (by omega))
    clear ha hb
    go_enter Try.func58, Try.ntmps58
    go_wp2
    go_ret
    exact ⟨ret_bool E.out.symm, rfl⟩
  replace hb : n ≤ 4096 := Decidable.of_not_not hb
  have db : decide (n ≤ 4096) = true := decide_eq_true hb
  have E := hid (show decide (0 ≤ n ∧ n ≤ 4096) = true from decide_eq_true (by omega))
  clear ha hb
  go_enter Try.func58, Try.ntmps58
  go_wp2
  go_ret
  exact ⟨ret_bool E.out.symm, rfl⟩
set_option maxHeartbeats 2000000 in
theorem guards_any (a fr mn : Int) (w : World) (hmn : -9223372036854775808 ≤ mn) : Calls Try.prog 39 #[.int .i64 a, .int .i64 fr, .int .i64 mn] w fun e w' => e = .returned (.bool (decide (SqG a fr mn))) ∧ w = w' := by
  have eg := enters_of Try.func58 (by kernel_rfl) rfl
  have HG := hid (show SqG a fr mn ↔ (0 ≤ a ∧ a ≤ 4096 ∧ 0 ≤ fr ∧ fr ≤ 4096 ∧ mn ≤ 16 ∧ (a < fr ∨ fr + mn ≤ a)) from Iff.rfl)
  by_cases pa : ¬ (0 ≤ a ∧ a ≤ 4096)
  · skip
    have E := hid (show decide (SqG a fr mn) = false from decide_eq_false (by rw [HG.out]; omega))
    clear hmn
    go_enter Try.func39, Try.ntmps39
    go_wp2_with fail
    refine (place_any a w).mono ?_
    rintro e w' ⟨rfl, rfl⟩
    rw [show decide (0 ≤ a ∧ a ≤ 4096) = false from decide_eq_false pa]
    go_wp2
    go_ret
    exact ⟨ret_bool E.out.symm, rfl⟩
  replace pa : 0 ≤ a ∧ a ≤ 4096 := Decidable.of_not_not pa
  by_cases pfr : ¬ (0 ≤ fr ∧ fr ≤ 4096)
  · skip
    have E := hid (show decide (SqG a fr mn) = false from decide_eq_false (by rw [HG.out]; omega))
    clear hmn
    go_enter Try.func39, Try.ntmps39
    go_wp2_with fail
    refine (place_any a w).mono ?_
    rintro e w' ⟨rfl, rfl⟩
    rw [show decide (0 ≤ a ∧ a ≤ 4096) = true from decide_eq_true pa]
    go_wp2_with fail
    refine (place_any fr w).mono ?_
    rintro e w' ⟨rfl, rfl⟩
    rw [show decide (0 ≤ fr ∧ fr ≤ 4096) = false from decide_eq_false pfr]
    go_wp2
    go_ret
    exact ⟨ret_bool E.out.symm, rfl⟩
  replace pfr : 0 ≤ fr ∧ fr ≤ 4096 := Decidable.of_not_not pfr
  by_cases hm : ¬ (mn ≤ 16)
  · have dm : decide (mn ≤ 16) = false := decide_eq_false hm
    have E := hid (show decide (SqG a fr mn) = false from decide_eq_false (by rw [HG.out]; omega))
    clear hmn hm
    go_enter Try.func39, Try.ntmps39
    go_wp2_with fail
    refine (place_any a w).mono ?_
    rintro e w' ⟨rfl, rfl⟩
    rw [show decide (0 ≤ a ∧ a ≤ 4096) = true from decide_eq_true pa]
    go_wp2_with fail
    refine (place_any fr w).mono ?_
    rintro e w' ⟨rfl, rfl⟩
    rw [show decide (0 ≤ fr ∧ fr ≤ 4096) = true from decide_eq_true pfr]
    go_wp2
    go_ret
    exact ⟨ret_bool E.out.symm, rfl⟩
  replace hm : mn ≤ 16 := Decidable.of_not_not hm
  have dm : decide (mn ≤ 16) = true := decide_eq_true hm
  have hw : IntKind.i64.wrap (fr + mn) = fr + mn := by rw [IntKind.wrap_i64]; omega
  by_cases h1 : a < fr
  · have d1 : decide (a < fr) = true := decide_eq_true h1
    have E := hid (show decide (SqG a fr mn) = true from decide_eq_true (by rw [HG.out]; omega))
    clear hmn hm h1 hw
    go_enter Try.func39, Try.ntmps39
    go_wp2_with fail
    refine (place_any a w).mono ?_
    rintro e w' ⟨rfl, rfl⟩
    rw [show decide (0 ≤ a ∧ a ≤ 4096) = true from decide_eq_true pa]
    go_wp2_with fail
    refine (place_any fr w).mono ?_
    rintro e w' ⟨rfl, rfl⟩
    rw [show decide (0 ≤ fr ∧ fr ≤ 4096) = true from decide_eq_true pfr]
    go_wp2
    go_ret
    exact ⟨ret_bool E.out.symm, rfl⟩
  have d1 : decide (a < fr) = false := decide_eq_false h1
  by_cases h2 : fr + mn ≤ a
  · have d2 : decide (fr + mn ≤ a) = true := decide_eq_true h2
    have E := hid (show decide (SqG a fr mn) = true from decide_eq_true (by rw [HG.out]; omega))
    clear hmn hm h1 h2
    go_enter Try.func39, Try.ntmps39
    go_wp2_with fail
    refine (place_any a w).mono ?_
    rintro e w' ⟨rfl, rfl⟩
    rw [show decide (0 ≤ a ∧ a ≤ 4096) = true from decide_eq_true pa]
    go_wp2_with fail
    refine (place_any fr w).mono ?_
    rintro e w' ⟨rfl, rfl⟩
    rw [show decide (0 ≤ fr ∧ fr ≤ 4096) = true from decide_eq_true pfr]
    go_wp2
    go_ret
    exact ⟨ret_bool E.out.symm, rfl⟩
  have d2 : decide (fr + mn ≤ a) = false := decide_eq_false h2
  have E := hid (show decide (SqG a fr mn) = false from decide_eq_false (by rw [HG.out]; omega))
  clear hmn hm h1 h2
  go_enter Try.func39, Try.ntmps39
  go_wp2_with fail
  refine (place_any a w).mono ?_
  rintro e w' ⟨rfl, rfl⟩
  rw [show decide (0 ≤ a ∧ a ≤ 4096) = true from decide_eq_true pa]
  go_wp2_with fail
  refine (place_any fr w).mono ?_
  rintro e w' ⟨rfl, rfl⟩
  rw [show decide (0 ≤ fr ∧ fr ≤ 4096) = true from decide_eq_true pfr]
  go_wp2
  go_ret
  exact ⟨ret_bool E.out.symm, rfl⟩
set_option maxHeartbeats 2000000 in
theorem rwords_any (a fr mn : Int) (w : World) (hmn : -9223372036854775808 ≤ mn) : Calls Try.prog 40 #[.int .i64 a, .int .i64 fr, .int .i64 mn] w fun e w' => e = .returned (.bool (decide (SqG a fr mn))) ∧ w = w' := by
  have HG := hid (show SqG a fr mn ↔ (0 ≤ a ∧ a ≤ 4096 ∧ 0 ≤ fr ∧ fr ≤ 4096 ∧ mn ≤ 16 ∧ (a < fr ∨ fr + mn ≤ a)) from Iff.rfl)
  by_cases ha : ¬ (0 ≤ a)
  · skip
    have da : decide (0 ≤ a) = false := decide_eq_false ha
    have E := hid (show decide (SqG a fr mn) = false from decide_eq_false (by rw [HG.out]; omega))
    clear hmn ha
    go_enter Try.func40, Try.ntmps40
    go_wp2
    go_ret
    exact ⟨ret_bool E.out.symm, rfl⟩
  replace ha : 0 ≤ a := Decidable.of_not_not ha
  have da : decide (0 ≤ a) = true := decide_eq_true ha
  by_cases hb : ¬ (a ≤ 4096)
  · skip
    have db : decide (a ≤ 4096) = false := decide_eq_false hb
    have E := hid (show decide (SqG a fr mn) = false from decide_eq_false (by rw [HG.out]; omega))
    clear hmn ha hb
    go_enter Try.func40, Try.ntmps40
    go_wp2
    go_ret
    exact ⟨ret_bool E.out.symm, rfl⟩
  replace hb : a ≤ 4096 := Decidable.of_not_not hb
  have db : decide (a ≤ 4096) = true := decide_eq_true hb
  by_cases hc : ¬ (0 ≤ fr)
  · skip
    have dc : decide (0 ≤ fr) = false := decide_eq_false hc
    have E := hid (show decide (SqG a fr mn) = false from decide_eq_false (by rw [HG.out]; omega))
    clear hmn ha hb hc
    go_enter Try.func40, Try.ntmps40
    go_wp2
    go_ret
    exact ⟨ret_bool E.out.symm, rfl⟩
  replace hc : 0 ≤ fr := Decidable.of_not_not hc
  have dc : decide (0 ≤ fr) = true := decide_eq_true hc
  by_cases hd : ¬ (fr ≤ 4096)
  · skip
    have dd : decide (fr ≤ 4096) = false := decide_eq_false hd
    have E := hid (show decide (SqG a fr mn) = false from decide_eq_false (by rw [HG.out]; omega))
    clear hmn ha hb hc hd
    go_enter Try.func40, Try.ntmps40
    go_wp2
    go_ret
    exact ⟨ret_bool E.out.symm, rfl⟩
  replace hd : fr ≤ 4096 := Decidable.of_not_not hd
  have dd : decide (fr ≤ 4096) = true := decide_eq_true hd
  by_cases hm : ¬ (mn ≤ 16)
  · skip
    have dm : decide (mn ≤ 16) = false := decide_eq_false hm
    have E := hid (show decide (SqG a fr mn) = false from decide_eq_false (by rw [HG.out]; omega))
    clear hmn ha hb hc hd hm
    go_enter Try.func40, Try.ntmps40
    go_wp2
    go_ret
    exact ⟨ret_bool E.out.symm, rfl⟩
  replace hm : mn ≤ 16 := Decidable.of_not_not hm
  have dm : decide (mn ≤ 16) = true := decide_eq_true hm
  have hw : IntKind.i64.wrap (fr + mn) = fr + mn := by rw [IntKind.wrap_i64]; omega
  by_cases h1 : a < fr
  · skip
    have E := hid (show decide (SqG a fr mn) = true from decide_eq_true (by rw [HG.out]; omega))
    have d1 : decide (fr ≤ a) = false := decide_eq_false (by omega)
    clear hmn ha hb hc hd hm h1
    go_enter Try.func40, Try.ntmps40
    go_wp2
    go_ret
    exact ⟨ret_bool E.out.symm, rfl⟩
  have d1 : decide (fr ≤ a) = true := decide_eq_true (by omega)
  by_cases h2 : fr + mn ≤ a
  · skip
    have E := hid (show decide (SqG a fr mn) = true from decide_eq_true (by rw [HG.out]; omega))
    have d2 : decide (a < fr + mn) = false := decide_eq_false (by omega)
    clear h2
    clear hmn ha hb hc hd hm h1
    go_enter Try.func40, Try.ntmps40
    go_wp2
    go_ret
    exact ⟨ret_bool E.out.symm, rfl⟩
  have E := hid (show decide (SqG a fr mn) = false from decide_eq_false (by rw [HG.out]; omega))
  have d2 : decide (a < fr + mn) = true := decide_eq_true (by omega)
  clear h2
  clear hmn ha hb hc hd hm h1
  go_enter Try.func40, Try.ntmps40
  go_wp2
  go_ret
  exact ⟨ret_bool E.out.symm, rfl⟩
set_option maxHeartbeats 2000000 in
theorem rread_any (a fr mn : Int) (w : World) : Calls Try.prog 14 #[.int .i64 a, .int .i64 fr, .int .i64 mn] w fun e w' => e = .returned (.bool (decide (0 ≤ mn ∧ SqG a fr mn))) ∧ w = w' := by
  by_cases h0 : 0 ≤ mn
  · have d0 : decide (0 ≤ mn) = true := decide_eq_true h0
    have E := hid (show decide (0 ≤ mn ∧ SqG a fr mn) = decide (SqG a fr mn) from decide_eq_decide.2 ⟨fun h => h.2, fun h => ⟨h0, h⟩⟩)
    have HR := hid (rwords_any a fr mn w (by omega))
    clear h0
    go_enter Try.func14, Try.ntmps14
    go_wp2_with fail
    refine HR.out.mono ?_
    rintro e w' ⟨rfl, rfl⟩
    clear HR
    go_wp2
    go_ret
    exact ⟨ret_bool E.out.symm, rfl⟩
  · have d0 : decide (0 ≤ mn) = false := decide_eq_false h0
    have E := hid (show decide (0 ≤ mn ∧ SqG a fr mn) = false from decide_eq_false (fun h => h0 h.1))
    clear h0
    go_enter Try.func14, Try.ntmps14
    go_wp2
    go_ret
    exact ⟨ret_bool E.out.symm, rfl⟩
end Go.Proofs.Ytnkaajkdjbdpaaa
