/- package rcu: New. No condition but sizes. -/
import Derived.Test.YtfipdoofgbjbjaaRc15
import Derived.Test.YtfipdoofgbjbjaaRd13
import Derived.Laws.MakeOwn
namespace Go.Proofs.Ytfipdoofgbjbjaa
open Go.RowKit
attribute [local go_sem] Oper.semAt_some
/-- the cells of so many queues that hold nothing -/
def zqs (n : Nat) : Array Value := madeCells (Value.agg #[.slice none 0 0, .int .u64 0]).cells (n * 2)
theorem zqs_get {n k : Nat} (h : k < n * 2) : (zqs n)[k]? = some (encQ zQe (k % 2)) := by
  have h3 : k % 2 = 0 ∨ k % 2 = 1 := by omega
  rcases h3 with e | e <;> simp [zqs, madeCells, h, Value.cells, e, encQ, zQe]
theorem zqs_size (n : Nat) : (zqs n).size = n * 2 := by simp [zqs, madeCells]
theorem run_make_que (n : Nat) (hn : n ≤ 1000) (w : World) : (Instr.makeSlice 28 (.int .i64 n) (.int .i64 n)).run Try.prog w = .ok (.slice (some ⟨w.heap.size, 0, none⟩) n n) (w.alloc (.cells (zqs n) 40)) := by
  obtain ⟨i, hi, hz, hs, hb⟩ : ∃ i, Try.prog.info? 40 = some i ∧ i.zero = some (.agg #[.slice none 0 0, .int .u64 0]) ∧ i.size = 2 ∧ i.bytes = 32 := by
    have h := info_que
    cases hq : Try.prog.info? 40 with
    | none => rw [hq] at h; cases h
    | some i =>
      rw [hq] at h
      simp only [Option.map_some, Option.some.injEq, Prod.mk.injEq] at h
      exact ⟨i, rfl, h.1, h.2.1, h.2.2⟩
  have h := run_make (P := Try.prog) w 28 40 i _ Try.underlying28 hi hz .i64 .i64 n n (by omega) (Int.le_refl _) (by rw [hb]; omega) (by omega)
  rw [Int.toNat_natCast, hs] at h
  exact h
theorem zqs_flat (n : Nat) : (zqs n).toList = flat 2 encQ (List.replicate n zQe) := by
  apply List.ext_getElem?
  intro k
  by_cases h : k < n * 2
  · have e : k = (k / 2) * 2 + k % 2 := by omega
    have hf := flat_get (sz := 2) (enc := encQ) zQe (List.replicate n zQe) (k / 2) (k % 2) (by rw [List.length_replicate]; omega) (by omega)
    rw [← e] at hf
    rw [Array.getElem?_toList, zqs_get h, hf, List.getElem?_replicate, if_pos (by omega)]
    rfl
  · rw [List.getElem?_eq_none (by rw [Array.length_toList, zqs_size]; omega), List.getElem?_eq_none (by rw [flat_length, List.length_replicate]; omega)]
theorem Om.zqs {w : World} {lo g : Nat} (n : Nat) (h : Blk w g 40 (zqs n)) (hlo : lo ≤ g) (hn : n ≤ 1000) : Om 2 encQ w lo 40 (some ⟨g, 0, none⟩) n n (List.replicate n zQe) := by
  refine ⟨by simp, by rw [flat_length, List.length_replicate], .inr ⟨g, n, _, rfl, hlo, h, Nat.le_refl _, by simp [maxLen]; omega, by rw [zqs_size], ?_⟩⟩
  rw [← zqs_flat, List.take_of_length_le (by rw [Array.length_toList, zqs_size]; omega)]
def nSt (n : Nat) : St := (0, List.replicate n 0, List.replicate n 0)
def nQs (n : Nat) : Qs := List.replicate n ([], 0)
theorem ql_rep (n : Nat) : ql (List.replicate n zQe) = nQs n := by simp [ql, nQs, zQe]
def RnwPost (w : World) (n : Nat) (x : Ending) (w' : World) : Prop := ∃ a, x = .returned (.tuple #[rcv (nSt n) (nGr n) a, .int .i64 0]) ∧ a.nq = n ∧ RcT w' w.heap.size (nSt n) (nGr n) (List.replicate n zQe) a ∧ Below w.heap.size w w'
set_option maxRecDepth 100000 in
set_option maxHeartbeats 4000000 in
theorem rnew_ok (n : Nat) (w : World) (h1 : 1 ≤ n) (h8 : n ≤ 8) : Calls Try.prog 11 #[.int .i64 n] w (RnwPost w n) := by
  have HB := hid (Below.refl w.heap.size w); have H1 := hid h1; have H8 := hid h8
  clear h1 h8
  have bx := below_box w (.cells #[.int .i64 0, .slice none 0 0, .slice none 0 0, .int .i64 0, .int .i64 0, .bool false, .slice none 0 0, .slice none 0 0] 30)
  replace HB := hid (below_then HB.out bx)
  clear bx
  have ZR := hid (Blk.new w 30 #[.int .i64 0, .slice none 0 0, .slice none 0 0, .int .i64 0, .int .i64 0, .bool false, .slice none 0 0, .slice none 0 0])
  go_enter Try.func11, Try.ntmps11
  go_wp2_with fail
  have hz0 := hid (show (w.alloc (.cells #[.int .i64 0, .slice none 0 0, .slice none 0 0, .int .i64 0, .int .i64 0, .bool false, .slice none 0 0, .slice none 0 0] 30)).heap.size = w.heap.size + 1 by simp)
  generalize w.alloc (.cells #[.int .i64 0, .slice none 0 0, .slice none 0 0, .int .i64 0, .int .i64 0, .bool false, .slice none 0 0, .slice none 0 0] 30) = W0 at *
  have HZ0 := hid hz0
  clear hz0
  refine (new_ok n W0 H1.out H8.out).mono ?_
  rintro e w1 ⟨A, B, rfl, ho, hb⟩
  replace ZR := hid (ZR.out.step hb); replace HB := hid (below_then HB.out hb)
  have HS1 := hid (show w.heap.size < w1.heap.size by have := HZ0.out.out; have := hb.size; omega)
  have RO := hid ho
  clear ho hb
  have bx := below_box w1 (.cells #[.int .i64 0, .slice A n n, .slice B n n] 24)
  replace ZR := hid (ZR.out.step bx); replace RO := hid (RO.out.step bx); replace HB := hid (below_then HB.out bx)
  clear bx
  have P4 := hid (Blk.new w1 24 #[.int .i64 0, .slice A n n, .slice B n n])
  go_upto_region 4 with fail
  have hz2 := hid (show (w1.alloc (.cells #[.int .i64 0, .slice A n n, .slice B n n] 24)).heap.size = w1.heap.size + 1 by simp)
  generalize w1.alloc (.cells #[.int .i64 0, .slice A n n, .slice B n n] 24) = W2 at *
  have HZ2 := hid hz2
  clear hz2
  go_wp2_with fail
  refine (gnew_ok n W2 H1.out H8.out).mono ?_
  rintro e w3 ⟨D, rfl, ho, hb⟩
  replace ZR := hid (ZR.out.step hb); replace RO := hid (RO.out.step hb); replace P4 := hid (P4.out.step hb); replace HB := hid (below_then HB.out hb)
  have HS3 := hid hb.size
  have DO := hid ho
  clear ho hb
  have bx := below_box w3 (.cells #[.int .i64 (nGr n).dn, .int .i64 (nGr n).ak, .bool (nGr n).on, .slice D n n] 27)
  replace ZR := hid (ZR.out.step bx); replace RO := hid (RO.out.step bx); replace P4 := hid (P4.out.step bx); replace DO := hid (DO.out.step bx); replace HB := hid (below_then HB.out bx)
  clear bx
  have P6 := hid (Blk.new w3 27 #[.int .i64 (nGr n).dn, .int .i64 (nGr n).ak, .bool (nGr n).on, .slice D n n])
  go_upto_region 7 with fail
  have hz4 := hid (show (w3.alloc (.cells #[.int .i64 (nGr n).dn, .int .i64 (nGr n).ak, .bool (nGr n).on, .slice D n n] 27)).heap.size = w3.heap.size + 1 by simp)
  generalize w3.alloc (.cells #[.int .i64 (nGr n).dn, .int .i64 (nGr n).ak, .bool (nGr n).on, .slice D n n] 27) = W4 at *
  have HZ4 := hid hz4
  clear hz4
  have hmk := run_make_que n (by have := H8.out; omega)
  have bx := (Below.refl W4.heap.size W4).drew
  replace ZR := hid (ZR.out.step bx); replace RO := hid (RO.out.step bx); replace P4 := hid (P4.out.step bx); replace DO := hid (DO.out.step bx); replace P6 := hid (P6.out.step bx); replace HB := hid (below_then HB.out bx)
  clear bx
  have hszd := hid (show W4.drew.heap.size = W4.heap.size from rfl)
  refine wp_region_noPanic ?_
  refine wp_region_held_drew (S := (fun W' : World => W'.cell? ⟨w1.heap.size, 0, none⟩ = some (.int .i64 0) ∧ W'.cell? ⟨w1.heap.size, 1, none⟩ = some (.slice A n n) ∧ W'.cell? ⟨w1.heap.size, 2, none⟩ = some (.slice B n n) ∧ W'.cell? ⟨w3.heap.size, 0, none⟩ = some (.int .i64 (nGr n).dn) ∧ W'.cell? ⟨w3.heap.size, 1, none⟩ = some (.int .i64 (nGr n).ak) ∧ W'.cell? ⟨w3.heap.size, 2, none⟩ = some (.bool (nGr n).on) ∧ W'.cell? ⟨w3.heap.size, 3, none⟩ = some (.slice D n n))) (by kernel_rfl) ⟨P4.out.cells3.1, P4.out.cells3.2.1, P4.out.cells3.2.2.1, P6.out.cells4.1, P6.out.cells4.2.1, P6.out.cells4.2.2.1, P6.out.cells4.2.2.2.1⟩ (fun hS => ?_)
  generalize W4.drew = Wd at *
  refine wpAnyH_take (i := 0) (v := ?_) (by simp only [List.getElem?_toArray, List.getElem?_cons_succ, List.getElem?_cons_zero]; rfl) (by kernel_rfl) (by kernel_rfl) (by kernel_rfl) (fun _ _ _ h => h) (Or.inl ⟨by rfl, ?_⟩) hS ?_
  rotate_left
  · intro w' hSw; (try dsimp only at hSw); go_split_ands; go_simp; (try with_reducible rfl)
  (try simp only [Act.put, List.setIfInBounds_toArray, List.set_cons_zero, List.set_cons_succ])
  refine wpAnyH_take (i := 1) (v := ?_) (by simp only [List.getElem?_toArray, List.getElem?_cons_succ, List.getElem?_cons_zero]; rfl) (by kernel_rfl) (by kernel_rfl) (by kernel_rfl) (fun _ _ _ h => h) (Or.inl ⟨by rfl, ?_⟩) hS ?_
  rotate_left
  · intro w' hSw; (try dsimp only at hSw); go_split_ands; go_simp; (try with_reducible rfl)
  (try simp only [Act.put, List.setIfInBounds_toArray, List.set_cons_zero, List.set_cons_succ])
  refine wpAnyH_take (i := 2) (v := ?_) (by simp only [List.getElem?_toArray, List.getElem?_cons_succ, List.getElem?_cons_zero]; rfl) (by kernel_rfl) (by kernel_rfl) (by kernel_rfl) (fun _ _ _ h => h) (Or.inl ⟨by rfl, ?_⟩) hS ?_
  rotate_left
  · intro w' hSw; (try dsimp only at hSw); go_split_ands; go_simp; (try with_reducible rfl)
  (try simp only [Act.put, List.setIfInBounds_toArray, List.set_cons_zero, List.set_cons_succ])
  refine wpAnyH_ready (rs := [3]) (by kernel_rfl) (by simp) ?_
  refine AllReadyH.cons (by simp only [List.getElem?_toArray, List.getElem?_cons_succ, List.getElem?_cons_zero]; rfl) (fun K hK => ?_) ?_
  · skip
    go_simp
    clear hmk
    have bx := below_box Wd (.cells (zqs n) 40)
    have QO := hid (show Om 2 encQ (Wd.alloc (.cells (zqs n) 40)) W4.heap.size 40 (some ⟨Wd.heap.size, 0, none⟩) n n (List.replicate n zQe) from Om.zqs n (Blk.new Wd _ _) (by first | exact Nat.le_refl _ | (have := hszd.out; omega)) (by have := H8.out; omega))
    replace ZR := hid (ZR.out.step bx); replace RO := hid (RO.out.step bx); replace P4 := hid (P4.out.step bx); replace DO := hid (DO.out.step bx); replace P6 := hid (P6.out.step bx); replace HB := hid (below_then HB.out bx)
    clear bx
    generalize Wd.alloc (.cells (zqs n) 40) = Wq at *
    refine hK.out _ _ ⟨P4.out.cells3.1, P4.out.cells3.2.1, P4.out.cells3.2.2.1, P6.out.cells4.1, P6.out.cells4.2.1, P6.out.cells4.2.2.1, P6.out.cells4.2.2.2.1⟩ (fun hS' => ?_)
    clear hK K hS
    have hS := hS'
    clear hS'
    (try simp only [Act.put, List.setIfInBounds_toArray, List.set_cons_zero, List.set_cons_succ])
    refine wpAnyH_take (i := 4) (v := ?_) (by simp only [List.getElem?_toArray, List.getElem?_cons_succ, List.getElem?_cons_zero]; rfl) (by kernel_rfl) (by kernel_rfl) (by kernel_rfl) (fun _ _ _ h => h) (Or.inl ⟨by rfl, ?_⟩) hS ?_
    rotate_left
    · intro w' hSw; (try dsimp only at hSw); go_split_ands; go_simp; (try with_reducible rfl)
    (try simp only [Act.put, List.setIfInBounds_toArray, List.set_cons_zero, List.set_cons_succ])
    refine wpAnyH_ready (rs := [5]) (by kernel_rfl) (by simp) ?_
    refine AllReadyH.cons (by simp only [List.getElem?_toArray, List.getElem?_cons_succ, List.getElem?_cons_zero]; rfl) (fun K hK => ?_) ?_
    · skip
      obtain ⟨y00, y01, y02, y03, y04, y05, y06, y07, yf0⟩ := ZR.out.cells8
      go_simp
      clear y00 y01 y02 y03 y04 y05 y06 y07 yf0
      refine named_store_8_8_0 ZR.out ?_
      intro Ws5 hbk hgr hsz
      have hsz1 := hid hsz
      clear hsz
      replace RO := hid (RO.out.keptR ZR.out (by decide) hgr); replace DO := hid (DO.out.keptR ZR.out (by decide) hgr); replace QO := hid (QO.out.keptR ZR.out (by decide) hgr)
      replace P4 := hid (P4.out.grown hgr (by have := HS1.out; simp; omega)); replace P6 := hid (P6.out.grown hgr (by have := HS1.out; have := HS3.out; have := HZ2.out.out; simp; omega))
      replace HB := hid (HB.out.grown hgr HB.out.size (fun r e => by cases e; omega))
      replace ZR := hid hbk
      clear hbk hgr
      refine hK.out _ _ ⟨P4.out.cells3.1, P4.out.cells3.2.1, P4.out.cells3.2.2.1, P6.out.cells4.1, P6.out.cells4.2.1, P6.out.cells4.2.2.1, P6.out.cells4.2.2.2.1⟩ (fun hS' => ?_)
      clear hK K hS
      have hS := hS'
      clear hS'
      (try simp only [Act.put, List.setIfInBounds_toArray, List.set_cons_zero, List.set_cons_succ])
      refine wpAnyH_take (i := 6) (v := ?_) (by simp only [List.getElem?_toArray, List.getElem?_cons_succ, List.getElem?_cons_zero]; rfl) (by kernel_rfl) (by kernel_rfl) (by kernel_rfl) (fun _ _ _ h => h) (Or.inl ⟨by rfl, ?_⟩) hS ?_
      rotate_left
      · intro w' hSw; (try dsimp only at hSw); go_split_ands; go_simp; (try with_reducible rfl)
      (try simp only [Act.put, List.setIfInBounds_toArray, List.set_cons_zero, List.set_cons_succ])
      refine wpAnyH_done (by kernel_rfl) ?_ _
      refine NoPanic.normal ?_
      clear hS
      go_wp2
      obtain ⟨y00, y01, y02, y03, y04, y05, y06, y07, yf0⟩ := ZR.out.cells8
      refine bodyPost_ret (v := .tuple #[rcv (nSt n) (nGr n) ⟨A, n, n, B, n, n, D, n, some ⟨Wd.heap.size, 0, none⟩, n, n⟩, .int .i64 0]) (by simp [results, Try.results11, go_sem, nGr, nSt, y00, y01, y02, y03, y04, y05, y06, y07]) rfl ⟨⟨A, n, n, B, n, n, D, n, some ⟨Wd.heap.size, 0, none⟩, n, n⟩, rfl, rfl, ⟨RO.out.mono ?_, ?_, QO.out.mono ?_, ?_⟩, HB.out⟩
      · have := HZ0.out.out; omega
      · show Ow blv _ _ _ D (List.replicate n false).length n (List.replicate n false)
        rw [List.length_replicate]
        exact DO.out.mono (by have := HZ0.out.out; have := HZ2.out.out; have := HS1.out; omega)
      · have := HZ0.out.out; have := HZ2.out.out; have := HS3.out; have := HZ4.out.out; have := HS1.out; omega
      · intro x hx
        obtain rfl := (List.mem_replicate.1 hx).2
        exact ⟨Om.nil _ _ _, by decide⟩
    exact AllReadyH.nil
  exact AllReadyH.nil
end Go.Proofs.Ytfipdoofgbjbjaa
