/- package reader: New. afterglowref11: Step. No condition but sizes. -/
import Derived.Test.YtfipdoofgbjbjaaRd12
import Derived.Test.YtfipdoofgbjbjaaKitA
namespace Go.Proofs.Ytfipdoofgbjbjaa
open Go.RowKit Go.Shelf Go.Maps

def NewPost (W : World) (n : Nat) (e : Ending) (W' : World) : Prop :=
  ∃ A B, e = .returned (.tuple #[rv 0 A n n B n n, .int .i64 0]) ∧ Rown W' W.heap.size A n n B n n (List.replicate n 0) (List.replicate n 0) ∧ Below W.heap.size W W'
set_option maxHeartbeats 2000000 in
theorem new_ok (n : Nat) (w : World) (h1 : 1 ≤ n) (h8 : n ≤ 8) : Calls Try.prog 31 #[.int .i64 n] w (NewPost w n) := by
  have hm := run_make_int n (by omega)
  have g1 : ¬ (n : Int) < 1 := by omega
  have g2 : ¬ (8 : Int) < (n : Int) := by omega
  go_enter Try.func31, Try.ntmps31
  go_wp2
  go_region
  · go_wp2
    refine bodyPost_ret (v := .tuple #[rv 0 (some ⟨w.heap.size + 1, 0, none⟩) n n (some ⟨w.heap.size + 1 + 1, 0, none⟩) n n, .int .i64 0]) (by simp [results, Try.results31, go_sem]) rfl ⟨_, _, rfl, ⟨?_, ?_, fun a b e1 e2 => by simp at e1 e2; omega, by omega, by omega⟩, ?_⟩
    · exact ((Ow.made (enc := i64) 0 (by simp) (by simp [maxLen]; omega) (by simp)).alloc _).drewN 1
    · exact (Ow.made (enc := i64) 0 (by simp <;> omega) (by simp [maxLen]; omega) (by simp)).drewN 1
    · exact below_drewN ((((Below.refl _ w).alloc (Nat.le_refl _) _).alloc (by simp) _).alloc (by simp <;> omega) _) 1
  · go_wp2
    refine bodyPost_ret (v := .tuple #[rv 0 (some ⟨w.heap.size + 1 + 1, 0, none⟩) n n (some ⟨w.heap.size + 1, 0, none⟩) n n, .int .i64 0]) (by simp [results, Try.results31, go_sem]) rfl ⟨_, _, rfl, ⟨?_, ?_, fun a b e1 e2 => by simp at e1 e2; omega, by omega, by omega⟩, ?_⟩
    · exact (Ow.made (enc := i64) 0 (by simp <;> omega) (by simp [maxLen]; omega) (by simp)).drewN 1
    · exact ((Ow.made (enc := i64) 0 (by simp) (by simp [maxLen]; omega) (by simp)).alloc _).drewN 1
    · exact below_drewN ((((Below.refl _ w).alloc (Nat.le_refl _) _).alloc (by simp) _).alloc (by simp <;> omega) _) 1
end Go.Proofs.Ytfipdoofgbjbjaa
