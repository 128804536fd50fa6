/- afterglowlaw12: begun, pick. No condition but sizes. -/
import Derived.Test.YtbibfjncjklclaaGr11
namespace Go.Proofs.Ytbibfjncjklclaa
open Go.RowKit
attribute [local go_sem] Oper.semAt_some
@[reducible] def tkv (k c : Int) : Value := .agg #[.int .i64 k, .int .i64 c]
set_option maxRecDepth 100000 in
set_option maxHeartbeats 2000000 in
theorem lpick_any (c : Int) (w : World) : Calls Try.prog 36 #[.int .i64 c] w fun x w' => x = .returned (tkv 4 c) ∧ Below w.heap.size w w' := by
  have P := Blk.new w 34 #[.int .i64 0, .int .i64 0]
  have HB := hid (below_box w (.cells #[.int .i64 4, .int .i64 c] 34))
  have P2 := hid (Blk.new w 34 #[.int .i64 4, .int .i64 c])
  obtain ⟨y0, y1, yf⟩ := P.cells2
  clear P
  go_enter Try.func36, Try.ntmps36
  go_wp2_with fail
  clear y0 y1 yf
  obtain ⟨z0, z1, zf⟩ := P2.out.cells2
  exact bodyPost_ret (v := tkv 4 c) (by simp [results, Try.results36, go_sem, z0, z1]) rfl ⟨rfl, HB.out⟩
def BegunPost (w : World) (n : Nat) (x : Ending) (w' : World) : Prop := ∃ A B D, x = .returned (.tuple #[rv 0 A n n B n n, gv (nGr n) D n n, .bool true]) ∧ Rown w' w.heap.size A n n B n n (List.replicate n 0) (List.replicate n 0) ∧ Ow blv w' w.heap.size 4 D n n (nGr n).nd ∧ Below w.heap.size w w'
set_option maxRecDepth 100000 in
set_option maxHeartbeats 4000000 in
theorem begun_ok (n : Nat) (w : World) (h1 : 1 ≤ n) (h8 : n ≤ 8) : Calls Try.prog 33 #[.int .i64 n] w (BegunPost w n) := by
  have HB := hid (Below.refl w.heap.size w)
  have H1 := hid h1; have H8 := hid h8
  clear h1 h8
  have bx := below_box w (.cells #[.int .i64 0, .slice none 0 0, .slice none 0 0] 24)
  replace HB := hid (below_then HB.out bx)
  clear bx
  have Z2 := hid (Blk.new w 24 #[.int .i64 0, .slice none 0 0, .slice none 0 0])
  have bx := below_box (w.alloc (.cells #[.int .i64 0, .slice none 0 0, .slice none 0 0] 24)) (.cells #[.int .i64 0, .int .i64 0, .bool false, .slice none 0 0] 27)
  replace Z2 := hid (Z2.out.step bx); replace HB := hid (below_then HB.out bx)
  clear bx
  have Z3 := hid (Blk.new2 w 27 #[.int .i64 0, .int .i64 0, .bool false, .slice none 0 0] (.cells #[.int .i64 0, .slice none 0 0, .slice none 0 0] 24))
  go_enter Try.func33, Try.ntmps33
  go_wp2_with fail
  have hz0 := hid (show ((w.alloc (.cells #[.int .i64 0, .slice none 0 0, .slice none 0 0] 24)).alloc (.cells #[.int .i64 0, .int .i64 0, .bool false, .slice none 0 0] 27)).heap.size = w.heap.size + 2 by simp)
  generalize (w.alloc (.cells #[.int .i64 0, .slice none 0 0, .slice none 0 0] 24)).alloc (.cells #[.int .i64 0, .int .i64 0, .bool false, .slice none 0 0] 27) = W0 at *
  refine (new_ok n W0 H1.out H8.out).mono ?_
  rintro e w1 ⟨A, B, rfl, ho, hb⟩
  have RO := hid ho
  clear ho
  replace Z2 := hid (Z2.out.step hb); replace Z3 := hid (Z3.out.step hb); replace HB := hid (below_then HB.out hb)
  clear hb
  have HZ1 := hid (show w.heap.size + 2 ≤ w1.heap.size by have := hz0.out; have := Z3.out.lt; omega)
  have bx := below_box w1 (.cells #[.int .i64 0, .slice A n n, .slice B n n] 24)
  replace Z2 := hid (Z2.out.step bx); replace Z3 := hid (Z3.out.step bx); replace RO := hid (RO.out.step bx); replace HB := hid (below_then HB.out bx)
  clear bx
  have P5 := hid (Blk.new w1 24 #[.int .i64 0, .slice A n n, .slice B n n])
  go_wp2_with fail
  generalize w1.alloc (.cells #[.int .i64 0, .slice A n n, .slice B n n] 24) = W1 at *
  refine (gnew_ok n W1 H1.out H8.out).mono ?_
  rintro e w2 ⟨D, rfl, hd, hb⟩
  have DO := hid hd
  have HZ2 := hid (show w1.heap.size < W1.heap.size from P5.out.lt)
  clear hd
  replace Z2 := hid (Z2.out.step hb); replace Z3 := hid (Z3.out.step hb); replace RO := hid (RO.out.step hb); replace P5 := hid (P5.out.step hb); replace HB := hid (below_then HB.out hb)
  have HZ3 := hid hb.size
  clear hb
  have gvE : gv (nGr n) D n n = .agg #[.int .i64 0, .int .i64 0, .bool false, .slice D n n] := rfl
  rw [gvE]
  clear gvE
  have bx := below_box w2 (.cells #[.int .i64 0, .int .i64 0, .bool false, .slice D n n] 27)
  replace Z2 := hid (Z2.out.step bx); replace Z3 := hid (Z3.out.step bx); replace RO := hid (RO.out.step bx); replace P5 := hid (P5.out.step bx); replace DO := hid (DO.out.step bx); replace HB := hid (below_then HB.out bx)
  clear bx
  have P7 := hid (Blk.new w2 27 #[.int .i64 0, .int .i64 0, .bool false, .slice D n n])
  go_upto_region 3 with fail
  generalize w2.alloc (.cells #[.int .i64 0, .int .i64 0, .bool false, .slice D n n] 27) = W2 at *
  have bx := (Below.refl W2.heap.size W2).drew
  replace Z2 := hid (Z2.out.step bx); replace Z3 := hid (Z3.out.step bx); replace RO := hid (RO.out.step bx); replace P5 := hid (P5.out.step bx); replace DO := hid (DO.out.step bx); replace P7 := hid (P7.out.step bx); replace HB := hid (below_then HB.out bx)
  clear bx
  have hszd := hid (show W2.drew.heap.size = W2.heap.size from rfl)
  refine wp_region_noPanic ?_
  refine wp_region_held_drew (S := (fun W' : World => W'.cell? ⟨w1.heap.size, 0, none⟩ = some (.int .i64 0) ∧ W'.cell? ⟨w1.heap.size, 1, none⟩ = some (.slice A n n) ∧ W'.cell? ⟨w1.heap.size, 2, none⟩ = some (.slice B n n) ∧ W'.cell? ⟨w2.heap.size, 0, none⟩ = some (.int .i64 0) ∧ W'.cell? ⟨w2.heap.size, 1, none⟩ = some (.int .i64 0) ∧ W'.cell? ⟨w2.heap.size, 2, none⟩ = some (.bool false) ∧ W'.cell? ⟨w2.heap.size, 3, none⟩ = some (.slice D n n))) (by kernel_rfl) ⟨P5.out.cells3.1, P5.out.cells3.2.1, P5.out.cells3.2.2.1, P7.out.cells4.1, P7.out.cells4.2.1, P7.out.cells4.2.2.1, P7.out.cells4.2.2.2.1⟩ (fun hS => ?_)
  generalize W2.drew = Wd at *
  refine wpAnyH_take (i := 0) (v := ?_) (by simp only [List.getElem?_toArray, List.getElem?_cons_succ, List.getElem?_cons_zero]; rfl) (by kernel_rfl) (by kernel_rfl) (by kernel_rfl) (fun _ _ _ h => h) (Or.inl ⟨by rfl, ?_⟩) hS ?_
  rotate_left
  · intro w' hSw; (try dsimp only at hSw); go_split_ands; go_simp; (try with_reducible rfl)
  (try simp only [Act.put, List.setIfInBounds_toArray, List.set_cons_zero, List.set_cons_succ])
  refine wpAnyH_take (i := 1) (v := ?_) (by simp only [List.getElem?_toArray, List.getElem?_cons_succ, List.getElem?_cons_zero]; rfl) (by kernel_rfl) (by kernel_rfl) (by kernel_rfl) (fun _ _ _ h => h) (Or.inl ⟨by rfl, ?_⟩) hS ?_
  rotate_left
  · intro w' hSw; (try dsimp only at hSw); go_split_ands; go_simp; (try with_reducible rfl)
  (try simp only [Act.put, List.setIfInBounds_toArray, List.set_cons_zero, List.set_cons_succ])
  refine wpAnyH_take (i := 2) (v := ?_) (by simp only [List.getElem?_toArray, List.getElem?_cons_succ, List.getElem?_cons_zero]; rfl) (by kernel_rfl) (by kernel_rfl) (by kernel_rfl) (fun _ _ _ h => h) (Or.inl ⟨by rfl, ?_⟩) hS ?_
  rotate_left
  · intro w' hSw; (try dsimp only at hSw); go_split_ands; go_simp; (try with_reducible rfl)
  (try simp only [Act.put, List.setIfInBounds_toArray, List.set_cons_zero, List.set_cons_succ])
  refine wpAnyH_take (i := 3) (v := ?_) (by simp only [List.getElem?_toArray, List.getElem?_cons_succ, List.getElem?_cons_zero]; rfl) (by kernel_rfl) (by kernel_rfl) (by kernel_rfl) (fun _ _ _ h => h) (Or.inl ⟨by rfl, ?_⟩) hS ?_
  rotate_left
  · intro w' hSw; (try dsimp only at hSw); go_split_ands; go_simp; (try with_reducible rfl)
  (try simp only [Act.put, List.setIfInBounds_toArray, List.set_cons_zero, List.set_cons_succ])
  refine wpAnyH_take (i := 4) (v := ?_) (by simp only [List.getElem?_toArray, List.getElem?_cons_succ, List.getElem?_cons_zero]; rfl) (by kernel_rfl) (by kernel_rfl) (by kernel_rfl) (fun _ _ _ h => h) (Or.inl ⟨by rfl, ?_⟩) hS ?_
  rotate_left
  · intro w' hSw; (try dsimp only at hSw); go_split_ands; go_simp; (try with_reducible rfl)
  (try simp only [Act.put, List.setIfInBounds_toArray, List.set_cons_zero, List.set_cons_succ])
  refine wpAnyH_take (i := 5) (v := ?_) (by simp only [List.getElem?_toArray, List.getElem?_cons_succ, List.getElem?_cons_zero]; rfl) (by kernel_rfl) (by kernel_rfl) (by kernel_rfl) (fun _ _ _ h => h) (Or.inl ⟨by rfl, ?_⟩) hS ?_
  rotate_left
  · intro w' hSw; (try dsimp only at hSw); go_split_ands; go_simp; (try with_reducible rfl)
  (try simp only [Act.put, List.setIfInBounds_toArray, List.set_cons_zero, List.set_cons_succ])
  refine wpAnyH_take (i := 6) (v := ?_) (by simp only [List.getElem?_toArray, List.getElem?_cons_succ, List.getElem?_cons_zero]; rfl) (by kernel_rfl) (by kernel_rfl) (by kernel_rfl) (fun _ _ _ h => h) (Or.inl ⟨by rfl, ?_⟩) hS ?_
  rotate_left
  · intro w' hSw; (try dsimp only at hSw); go_split_ands; go_simp; (try with_reducible rfl)
  (try simp only [Act.put, List.setIfInBounds_toArray, List.set_cons_zero, List.set_cons_succ])
  refine wpAnyH_take (i := 7) (v := ?_) (by simp only [List.getElem?_toArray, List.getElem?_cons_succ, List.getElem?_cons_zero]; rfl) (by kernel_rfl) (by kernel_rfl) (by kernel_rfl) (fun _ _ _ h => h) (Or.inl ⟨by rfl, ?_⟩) hS ?_
  rotate_left
  · intro w' hSw; (try dsimp only at hSw); go_split_ands; go_simp; (try with_reducible rfl)
  (try simp only [Act.put, List.setIfInBounds_toArray, List.set_cons_zero, List.set_cons_succ])
  refine wpAnyH_ready (rs := [8]) (by kernel_rfl) (by simp) ?_
  refine AllReadyH.cons (by simp only [List.getElem?_toArray, List.getElem?_cons_succ, List.getElem?_cons_zero]; rfl) (fun K hK => ?_) ?_
  · skip
    obtain ⟨y00, y01, y02, yf0⟩ := Z2.out.cells3
    go_simp
    clear y00 y01 y02 yf0
    refine named_store3 Z2.out ?_
    intro Ws8 hbk hgr hsz
    have hsz0 := hid hsz
    clear hsz
    replace P5 := hid (P5.out.grown hgr (by have := HZ1.out; have := HZ2.out; have := HZ3.out; simp; try omega))
    replace P7 := hid (P7.out.grown hgr (by have := HZ1.out; have := HZ2.out; have := HZ3.out; simp; try omega))
    replace RO := hid (RO.out.keptR Z2.out (by decide) hgr)
    replace DO := hid (DO.out.keptR Z2.out (by decide) hgr)
    replace Z3 := hid (Z3.out.grown hgr (by simp)); replace HB := hid (HB.out.grown hgr HB.out.size (fun r e => by cases e; have := HZ1.out; omega))
    replace Z2 := hid hbk
    clear hbk hgr
    refine hK.out _ _ ⟨P5.out.cells3.1, P5.out.cells3.2.1, P5.out.cells3.2.2.1, P7.out.cells4.1, P7.out.cells4.2.1, P7.out.cells4.2.2.1, P7.out.cells4.2.2.2.1⟩ (fun hS' => ?_)
    clear hK K hS
    have hS := hS'
    clear hS'
    (try simp only [Act.put, List.setIfInBounds_toArray, List.set_cons_zero, List.set_cons_succ])
    refine wpAnyH_ready (rs := [9]) (by kernel_rfl) (by simp) ?_
    refine AllReadyH.cons (by simp only [List.getElem?_toArray, List.getElem?_cons_succ, List.getElem?_cons_zero]; rfl) (fun K hK => ?_) ?_
    · skip
      obtain ⟨y00, y01, y02, y03, yf0⟩ := Z3.out.cells4
      go_simp
      clear y00 y01 y02 y03 yf0
      refine named_store4 Z3.out ?_
      intro Ws9 hbk hgr hsz
      have hsz1 := hid hsz
      clear hsz
      replace P5 := hid (P5.out.grown hgr (by have := HZ1.out; have := HZ2.out; have := HZ3.out; simp; try omega))
      replace P7 := hid (P7.out.grown hgr (by have := HZ1.out; have := HZ2.out; have := HZ3.out; simp; try omega))
      replace RO := hid (RO.out.keptR Z3.out (by decide) hgr)
      replace DO := hid (DO.out.keptR Z3.out (by decide) hgr)
      replace Z2 := hid (Z2.out.grown hgr (by simp)); replace HB := hid (HB.out.grown hgr HB.out.size (fun r e => by cases e; have := HZ1.out; omega))
      replace Z3 := hid hbk
      clear hbk hgr
      refine hK.out _ _ ⟨P5.out.cells3.1, P5.out.cells3.2.1, P5.out.cells3.2.2.1, P7.out.cells4.1, P7.out.cells4.2.1, P7.out.cells4.2.2.1, P7.out.cells4.2.2.2.1⟩ (fun hS' => ?_)
      clear hK K hS
      have hS := hS'
      clear hS'
      (try simp only [Act.put, List.setIfInBounds_toArray, List.set_cons_zero, List.set_cons_succ])
      refine wpAnyH_take (i := 10) (v := ?_) (by simp only [List.getElem?_toArray, List.getElem?_cons_succ, List.getElem?_cons_zero]; rfl) (by kernel_rfl) (by kernel_rfl) (by kernel_rfl) (fun _ _ _ h => h) (Or.inl ⟨by rfl, ?_⟩) hS ?_
      rotate_left
      · intro w' hSw; (try dsimp only at hSw); go_split_ands; go_simp; (try with_reducible rfl)
      (try simp only [Act.put, List.setIfInBounds_toArray, List.set_cons_zero, List.set_cons_succ])
      refine wpAnyH_done (by kernel_rfl) ?_ _
      refine NoPanic.normal ?_
      clear hS
      go_wp2
      obtain ⟨y00, y01, y02, yf0⟩ := Z2.out.cells3
      obtain ⟨y10, y11, y12, y13, yf1⟩ := Z3.out.cells4
      refine bodyPost_ret (v := .tuple #[rv 0 A n n B n n, gv (nGr n) D n n, .bool true]) (by simp [results, Try.results33, go_sem, nGr, y00, y01, y02, y10, y11, y12, y13]) rfl ⟨A, B, D, rfl, RO.out.mono (by have := HZ1.out; have := hz0.out; omega), DO.out.mono (by have := HZ1.out; have := HZ2.out; omega), HB.out⟩
    exact AllReadyH.nil
  exact AllReadyH.nil
end Go.Proofs.Ytbibfjncjklclaa
