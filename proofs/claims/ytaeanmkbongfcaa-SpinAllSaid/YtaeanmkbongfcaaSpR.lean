/- slices.Repeat of one element that is all zero, at 1 to 5; asking. No condition. -/
import Derived.Test.YtaeanmkbongfcaaSp17
import Derived.Test.YtaeanmkbongfcaaKitA
import Derived.Laws.MakeOwn
namespace Go.Proofs.Ytaeanmkbongfcaa
open Go.RowKit
theorem mul_any (n : Nat) (w : World) (h1 : 1 ≤ n) (h5 : n ≤ 5) : Calls Try.prog 69 #[.int .u64 1, .int .u64 n] w fun e w' => e = .returned (.tuple #[.int .u64 0, .int .u64 n]) ∧ w = w' := by
  obtain rfl | rfl | rfl | rfl | rfl : n = 1 ∨ n = 2 ∨ n = 3 ∨ n = 4 ∨ n = 5 := by omega
  all_goals
    go_enter Try.func69, Try.ntmps69
    go_wp2
    refine bodyPost_ret (v := .tuple #[.int .u64 0, .int .u64 _]) (by simp [results, Try.results69, go_sem]; decide +kernel) rfl ⟨rfl, rfl⟩
/-- the cells of so many zero elements -/
def zsp (n : Nat) : Array Value := madeCells (Value.agg #[.int .i64 0, .int .i64 0, .int .u64 0]).cells (n * 3)
theorem zsp_get {n k : Nat} (h : k < n * 3) : (zsp n)[k]? = some (encS (0, 0, 0) (k % 3)) := by
  have h3 : k % 3 = 0 ∨ k % 3 = 1 ∨ k % 3 = 2 := by omega
  rcases h3 with e | e | e <;> simp [zsp, madeCells, h, Value.cells, e, encS]
theorem zsp_size (n : Nat) : (zsp n).size = n * 3 := by simp [zsp, madeCells]
theorem run_make_spn (n : Nat) (hn : n ≤ 1000) (w : World) : (Instr.makeSlice 26 (.int .i64 n) (.int .i64 n)).run Try.prog w = .ok (.slice (some ⟨w.heap.size, 0, none⟩) n n) (w.alloc (.cells (zsp n) 38)) := by
  obtain ⟨i, hi, hz, hs, hb⟩ : ∃ i, Try.prog.info? 38 = some i ∧ i.zero = some (.agg #[.int .i64 0, .int .i64 0, .int .u64 0]) ∧ i.size = 3 ∧ i.bytes = 24 := by
    have h := info_spn
    cases hq : Try.prog.info? 38 with
    | none => rw [hq] at h; cases h
    | some i =>
      rw [hq] at h
      simp only [Option.map_some, Option.some.injEq, Prod.mk.injEq] at h
      exact ⟨i, rfl, h.1, h.2.1, h.2.2⟩
  have h := run_make (P := Try.prog) w 26 38 i _ Try.underlying26 hi hz .i64 .i64 n n (by omega) (Int.le_refl _) (by rw [hb]; omega) (by omega)
  rw [Int.toNat_natCast, hs] at h
  exact h
theorem zsp_flat (n : Nat) : (zsp n).toList = flat 3 encS (List.replicate n (0, 0, 0)) := by
  apply List.ext_getElem?
  intro k
  by_cases h : k < n * 3
  · have e : k = (k / 3) * 3 + k % 3 := by omega
    have hf := flat_get (sz := 3) (enc := encS) ((0, 0, 0) : Spn) (List.replicate n (0, 0, 0)) (k / 3) (k % 3) (by rw [List.length_replicate]; omega) (by omega)
    rw [← e] at hf
    rw [Array.getElem?_toList, zsp_get h, hf, List.getElem?_replicate, if_pos (by omega)]
    rfl
  · rw [List.getElem?_eq_none (by rw [Array.length_toList, zsp_size]; omega), List.getElem?_eq_none (by rw [flat_length, List.length_replicate]; omega)]
theorem Om.zsp {w : World} {lo g : Nat} (n : Nat) (h : Blk w g 38 (zsp n)) (hlo : lo ≤ g) (hn : n ≤ 1000) : Om 3 encS w lo 38 (some ⟨g, 0, none⟩) n n (List.replicate n (0, 0, 0)) := by
  refine ⟨by simp, by rw [flat_length, List.length_replicate], .inr ⟨g, n, _, rfl, hlo, h, Nat.le_refl _, by simp [maxLen]; omega, by rw [zsp_size], ?_⟩⟩
  rw [← zsp_flat, List.take_of_length_le (by rw [Array.length_toList, zsp_size]; omega)]
def RepPost (n : Nat) (w : World) (e : Ending) (w' : World) : Prop := ∃ g, e = .returned (.slice (some ⟨g, 0, none⟩) n n) ∧ Om 3 encS w' w.heap.size 38 (some ⟨g, 0, none⟩) n n (List.replicate n (0, 0, 0)) ∧ Below w.heap.size w w'
theorem zsp_copy {W : World} {g : Nat} (n k m : Nat) (dC : Nat) (sC : Nat) (a : Addr) (sLen dLen : Nat) (ty : TypeId) (h : Blk W g 38 (zsp n)) (hm : Nat.min sLen dLen = m) (hk : k + m ≤ n) (hsrc : ∀ j, j < m * 3 → W.cell? (a.add j) = some (encS (0, 0, 0) (j % 3))) :
    (Builtin.copy_ #[26, 26] ty #[.slice (some ⟨g, k * 3, none⟩) dLen dC, .slice (some a) sLen sC]).run Try.prog W = .ok (.int .i64 m) W := by
  refine run_copy_idle W _ _ ty 38 3 g (k * 3) dLen dC a sLen sC m (zsp n) 38 ((List.range (m * 3)).map fun j => encS (0, 0, 0) (j % 3)) Try.underlying26 (by kernel_rfl) h hm (by simp) (fun j v hv => ?_) (by simp [zsp_size]; omega) (fun v hv => ?_) (fun j hj => ?_)
  · have hj : j < m * 3 := by have := (List.getElem?_eq_some_iff.1 hv).1; simpa using this
    rw [List.getElem?_map, List.getElem?_range hj] at hv
    rw [hsrc j hj, ← hv]; rfl
  · obtain ⟨j, _, rfl⟩ := List.mem_map.1 hv
    exact encS_one _ _ (by omega)
  · have hj' : j < m * 3 := by simpa using hj
    rw [zsp_get (by omega), List.getElem?_map, List.getElem?_range hj', Nat.mul_comm k 3, Nat.mul_add_mod]; rfl
set_option maxHeartbeats 2000000 in
theorem repeat_any (X : Option Addr) (n lo : Nat) (w : World) (hx : Sm 3 encS (0, 0, 0) w lo w.heap.size X 1 [(0, 0, 0)]) (h1 : 1 ≤ n) (h5 : n ≤ 5) :
    Calls Try.prog 49 #[.slice X 1 1, .int .i64 n] w (RepPost n w) := by
  have HX := hid hx
  clear hx
  have hpos : ¬ (n : Int) < 0 := by omega
  have hw1 : IntKind.u64.wrap (n : Int) = (n : Int) := by rw [IntKind.wrap_u64]; omega
  have hw2 : IntKind.i64.wrap (n : Int) = (n : Int) := by rw [IntKind.wrap_i64]; omega
  have hbig : ¬ (9223372036854775807 : Int) < (n : Int) := by omega
  go_enter Try.func49, Try.ntmps49
  go_wp2_with fail
  refine (mul_any n w h1 h5).mono ?_
  rintro e w' ⟨rfl, rfl⟩
  have hmk := run_make_spn n (by omega)
  go_upto_region 7 with fail
  obtain ⟨b, off, rfl, hb1, hb2, hc⟩ := HX.out.row (by omega)
  have c0 := hc 0 (by omega) 0 (by omega)
  have HC0 := hid (fun j (hj : j < 3) => hc 0 (by omega) j hj)
  have hbw := hid (below_box w (.cells (zsp n) 38))
  have HP := hid (Blk.new w 38 (zsp n))
  clear hc c0 hmk
  generalize w.alloc (.cells (zsp n) 38) = W1 at *
  have HB := hid hbw.out
  have q1 : ∀ ty, (Builtin.copy_ #[26, 26] ty #[.slice (some ⟨w.heap.size, 0, none⟩) n n, .slice (some ⟨b, off, none⟩) 1 1]).run Try.prog W1 = .ok (.int .i64 1) W1 := fun ty => by
    have h := zsp_copy n 0 1 n 1 ⟨b, off, none⟩ 1 n ty HP.out (show min 1 n = 1 by omega) (by omega) (fun j hj => by
      have hj3 : j < 3 := by omega
      have h2 := (HB.out.cell (p := ⟨b, off + 0 * 3 + j, none⟩) hb2).trans (HC0.out j hj3)
      rw [Addr.add_lit, show j % 3 = j by omega]
      rw [show off + 0 * 3 + j = off + j by omega] at h2
      exact h2)
    exact h
  go_wp2_with fail
  clear q1
  have HB0 := HB
  go_loopw [8] (fun k wr => ∃ j : Nat, 1 ≤ j ∧ j ≤ n ∧ k = .int .i64 j ∧ Blk wr w.heap.size 38 (zsp n) ∧ Below w.heap.size w wr) (fun k _ => n - (intOf k).toNat)
  case atStart => exact ⟨1, Nat.le_refl _, h1, rfl, HP.out, HB.out⟩
  case round =>
    clear HP HB hbw HB0
    obtain ⟨j, hj1, hj, rfl, hp, hb⟩ := hrel
    have HP := hid hp; have HB := hid hb
    clear hp hb
    by_cases hjn : j < n
    rotate_left
    · obtain rfl : j = n := by omega
      have hnn : ¬ ((j : Int) < (j : Int)) := by omega
      go_wp2
      go_ret
      exact ⟨_, rfl, Om.zsp j HP.out (Nat.le_refl _) (by omega), HB.out⟩
    have hji : (j : Int) < (n : Int) := by omega
    have hnj : ¬ n = j := by omega
    obtain ⟨m, hm⟩ : ∃ m, m = min j (n - j) := ⟨_, rfl⟩
    have hm1 : 1 ≤ m := by omega
    have hm2 : j + m ≤ n := by omega
    have HM := hid hm
    have hw3 : IntKind.i64.wrap ((j : Int) + (m : Int)) = (j : Int) + (m : Int) := by rw [IntKind.wrap_i64]; omega
    clear hm
    go_wp2_with fail
    have bx := (Below.refl wr.heap.size wr).drew
    replace HP := hid (HP.out.step bx); replace HB := hid (below_then HB.out bx)
    clear bx
    have hszd := hid (show wr.drew.heap.size = wr.heap.size from rfl)
    refine wp_region_noPanic ?_
    refine wp_region_held_drew (S := (fun W' : World => True)) (by kernel_rfl) trivial (fun hS => ?_)
    generalize wr.drew = Wd at *
    refine wpAnyH_take (i := 0) (v := ?_) (by simp only [List.getElem?_toArray, List.getElem?_cons_succ, List.getElem?_cons_zero]; rfl) (by kernel_rfl) (by kernel_rfl) (by kernel_rfl) (fun _ _ _ h => h) (Or.inl ⟨by rfl, ?_⟩) hS ?_
    rotate_left
    · intro w' hSw; (try dsimp only at hSw); go_split_ands; go_simp; (try with_reducible rfl)
    (try simp only [Act.put, List.setIfInBounds_toArray, List.set_cons_zero, List.set_cons_succ])
    refine wpAnyH_take (i := 1) (v := ?_) (by simp only [List.getElem?_toArray, List.getElem?_cons_succ, List.getElem?_cons_zero]; rfl) (by kernel_rfl) (by kernel_rfl) (by kernel_rfl) (fun _ _ _ h => h) (Or.inl ⟨by rfl, ?_⟩) hS ?_
    rotate_left
    · intro w' hSw; (try dsimp only at hSw); go_split_ands; go_simp; (try with_reducible rfl)
    (try simp only [Act.put, List.setIfInBounds_toArray, List.set_cons_zero, List.set_cons_succ])
    refine wpAnyH_take (i := 2) (v := ?_) (by simp only [List.getElem?_toArray, List.getElem?_cons_succ, List.getElem?_cons_zero]; rfl) (by kernel_rfl) (by kernel_rfl) (by kernel_rfl) (fun _ _ _ h => h) (Or.inl ⟨by rfl, ?_⟩) hS ?_
    rotate_left
    · intro w' hSw; (try dsimp only at hSw); go_split_ands; go_simp; (try with_reducible rfl)
    (try simp only [Act.put, List.setIfInBounds_toArray, List.set_cons_zero, List.set_cons_succ])
    refine wpAnyH_take (i := 3) (v := ?_) (by simp only [List.getElem?_toArray, List.getElem?_cons_succ, List.getElem?_cons_zero]; rfl) (by kernel_rfl) (by kernel_rfl) (by kernel_rfl) (fun _ _ _ h => h) (Or.inl ⟨by rfl, ?_⟩) hS ?_
    rotate_left
    · intro w' hSw; (try dsimp only at hSw); go_split_ands; go_simp; (try with_reducible rfl)
    (try simp only [Act.put, List.setIfInBounds_toArray, List.set_cons_zero, List.set_cons_succ])
    refine wpAnyH_take (i := 4) (v := ?_) (by simp only [List.getElem?_toArray, List.getElem?_cons_succ, List.getElem?_cons_zero]; rfl) (by kernel_rfl) (by kernel_rfl) (by kernel_rfl) (fun _ _ _ h => h) (Or.inl ⟨by rfl, ?_⟩) hS ?_
    rotate_left
    · intro w' hSw; (try dsimp only at hSw); go_split_ands; go_simp; (try with_reducible rfl)
    (try simp only [Act.put, List.setIfInBounds_toArray, List.set_cons_zero, List.set_cons_succ])
    refine wpAnyH_take (i := 5) (v := ?_) (by simp only [List.getElem?_toArray, List.getElem?_cons_succ, List.getElem?_cons_zero]; rfl) (by kernel_rfl) (by kernel_rfl) (by kernel_rfl) (fun _ _ _ h => h) (Or.inl ⟨by rfl, ?_⟩) hS ?_
    rotate_left
    · intro w' hSw; (try dsimp only at hSw); go_split_ands; go_simp; (try with_reducible rfl)
    (try simp only [Act.put, List.setIfInBounds_toArray, List.set_cons_zero, List.set_cons_succ])
    refine wpAnyH_take (i := 6) (v := ?_) (by simp only [List.getElem?_toArray, List.getElem?_cons_succ, List.getElem?_cons_zero]; rfl) (by kernel_rfl) (by kernel_rfl) (by kernel_rfl) (fun _ _ _ h => h) (Or.inl ⟨by rfl, ?_⟩) hS ?_
    rotate_left
    · intro w' hSw; (try dsimp only at hSw); go_split_ands; go_simp; (try with_reducible rfl)
    (try simp only [Act.put, List.setIfInBounds_toArray, List.set_cons_zero, List.set_cons_succ])
    refine wpAnyH_ready (rs := [7]) (by kernel_rfl) (by simp) ?_
    refine AllReadyH.cons (by simp only [List.getElem?_toArray, List.getElem?_cons_succ, List.getElem?_cons_zero]; rfl) (fun K hK => ?_) ?_
    · skip
      have q2 : ∀ ty, (Builtin.copy_ #[26, 26] ty #[.slice (some ⟨w.heap.size, j * 3, none⟩) (n - j) (n - j), .slice (some ⟨w.heap.size, 0, none⟩) j n]).run Try.prog Wd = .ok (.int .i64 m) Wd := fun ty =>
        zsp_copy n j m _ _ ⟨w.heap.size, 0, none⟩ _ _ ty HP.out (show min j (n - j) = m from HM.out.symm) (by omega) (fun i hi => by rw [Addr.add_lit, Nat.zero_add, HP.out.cell, zsp_get (by omega)])
      go_simp
      have hS' : (fun W' : World => True) Wd := trivial
      refine hK.out _ _ hS' (fun _ => ?_)
      clear hK K hS
      have hS := hS'
      clear hS'
      (try simp only [Act.put, List.setIfInBounds_toArray, List.set_cons_zero, List.set_cons_succ])
      refine wpAnyH_take (i := 8) (v := ?_) (by simp only [List.getElem?_toArray, List.getElem?_cons_succ, List.getElem?_cons_zero]; rfl) (by kernel_rfl) (by kernel_rfl) (by kernel_rfl) (fun _ _ _ h => h) (Or.inl ⟨by rfl, ?_⟩) hS ?_
      rotate_left
      · intro w' hSw; (try dsimp only at hSw); go_split_ands; go_simp; (try with_reducible rfl)
      (try simp only [Act.put, List.setIfInBounds_toArray, List.set_cons_zero, List.set_cons_succ])
      refine wpAnyH_take (i := 9) (v := ?_) (by simp only [List.getElem?_toArray, List.getElem?_cons_succ, List.getElem?_cons_zero]; rfl) (by kernel_rfl) (by kernel_rfl) (by kernel_rfl) (fun _ _ _ h => h) (Or.inl ⟨by rfl, ?_⟩) hS ?_
      rotate_left
      · intro w' hSw; (try dsimp only at hSw); go_split_ands; go_simp; (try with_reducible rfl)
      (try simp only [Act.put, List.setIfInBounds_toArray, List.set_cons_zero, List.set_cons_succ])
      refine wpAnyH_done (by kernel_rfl) ?_ _
      refine NoPanic.normal ?_
      clear hS
      go_wp2_with fail
      go_roundw
      case rel => exact ⟨j + m, by omega, by omega, by go_num, HP.out, HB.out⟩
      case measure => simp [intOf]; omega
    exact AllReadyH.nil
def AskPost (n : Nat) (w : World) (e : Ending) (w' : World) : Prop := ∃ g, e = .returned (.slice (some ⟨g, 0, none⟩) n n) ∧ Om 3 encS w' w.heap.size 38 (some ⟨g, 0, none⟩) n n (List.replicate n (0, 0, 0)) ∧ Below w.heap.size w w'
theorem asking_any (n : Nat) (w : World) (h1 : 1 ≤ n) (h5 : n ≤ 5) : Calls Try.prog 32 #[.int .i64 n] w (AskPost n w) := by
  have HB := hid (Below.refl w.heap.size w)
  go_enter Try.func32, Try.ntmps32
  go_wp2_with fail
  refine (ask_any 0 w).mono ?_
  rintro e w1 ⟨rfl, hb⟩
  replace HB := hid (below_then HB.out hb)
  clear hb
  have hs1 := hid HB.out.size
  have HL := hid (Sm.lit (sz := 3) (enc := encS) (d := (0, 0, 0)) (w := w1) (e := 38) (cs := #[.int .i64 0, .int .i64 0, .int .u64 0]) (g := w1.heap.size) [((0, 0, 0) : Spn)] (by simp) (by intro k hk j hj; have hk' : k < 1 := hk; have hj' : j < 3 := hj; match k, hk', j, hj' with | 0, _, 0, _ => rfl | 0, _, 1, _ => rfl | 0, _, 2, _ => rfl))
  have bx := below_box w1 (.cells #[.int .i64 0, .int .i64 0, .int .u64 0] 38)
  replace HB := hid (below_then HB.out bx)
  clear bx
  go_wp2_with fail
  generalize w1.alloc (.cells #[.int .i64 0, .int .i64 0, .int .u64 0] 38) = W2 at *
  refine (repeat_any _ n 0 W2 HL.out h1 h5).mono ?_
  rintro e w3 ⟨g, rfl, om, hb⟩
  have OM := hid (om.mono (show w.heap.size ≤ W2.heap.size from HB.out.size))
  clear om
  replace HB := hid (below_then HB.out hb)
  clear hb
  go_wp2
  go_ret
  exact ⟨g, rfl, OM.out, HB.out⟩
end Go.Proofs.Ytaeanmkbongfcaa
