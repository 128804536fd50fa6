/- afterglowlaw02.MemoryTurns returns true at every memory, place and number, and turns nothing old. No condition but the sizes of memory. -/
import Derived.Test.YtenhojdhjfoomaaLHolds
namespace Go.Proofs.Ytenhojdhjfoomaa
open Go.RowKit

/-! ### the plain law -/
theorem drop_take_get {α : Type} (ls : List α) (fr mn k : Nat) (d : α) (hk : k < mn) : ((ls.drop fr).take mn)[k]?.getD d = ls[fr + k]?.getD d := by
  rw [List.getElem?_take, if_pos hk, List.getElem?_drop]
theorem mgood_turn {ws : List Int} {ls : List Bool} {fr mn : Nat} {h : Int} {l : Bool} (hg : MGood ws ls) (hr : fr + mn ≤ ws.length) (hh : h = 0 ∨ h = poison) : MGood (setR ws fr h mn) (setR ls fr l mn) := by
  obtain ⟨⟨h1, h2, h3⟩, h4⟩ := hg
  refine ⟨⟨by rw [setR_length]; exact h1, by rw [setR_length]; exact h2, by rw [setR_length, setR_length]; exact h3⟩, fun j hj => ?_⟩
  rw [setR_length] at hj
  unfold wordOk
  rw [setR_get ws fr h mn j 0 hr, setR_get ls fr l mn j false (by omega)]
  by_cases hin : fr ≤ j ∧ j < fr + mn
  · rw [if_pos hin, if_pos hin]
    rcases hh with rfl | rfl <;> simp
  · rw [if_neg hin, if_neg hin]; exact h4 j hj
theorem turnF_ok {ws : List Int} {ls : List Bool} {f : Bool} {fr mn : Nat} {live : Bool} {holds no : Int} (hg : MGood ws ls) (h1 : 1 ≤ mn) (hr : fr + mn ≤ ws.length) (hall : ∀ j, fr ≤ j → j < fr + mn → ls[j]?.getD false = !live) :
    turnF (ws, ls, f) fr mn live holds no = (0, setR ws fr holds mn, setR ls fr live mn, f) := by
  have hc : turnC ws ls fr mn live no = 0 := by
    unfold turnC
    rw [if_neg (not_not_intro hg), if_neg (by omega), if_neg]
    rw [Int.toNat_natCast, Int.toNat_natCast]
    refine not_not_intro fun k hk => ?_
    rw [drop_take_get _ _ _ _ _ hk, hall (fr + k) (by omega) (by omega)]
    cases live <;> rfl
  unfold turnF
  rw [if_pos hc, Int.toNat_natCast, Int.toNat_natCast]
theorem turnF_no {ws : List Int} {ls : List Bool} {f : Bool} {fr mn : Nat} {live : Bool} {holds no : Int} (hg : MGood ws ls) (h1 : 1 ≤ mn) (hr : fr + mn ≤ ws.length) (hno : no ≠ 0) (hbad : ls[fr]?.getD false = live) :
    turnF (ws, ls, f) fr mn live holds no = (no, [], [], false) := by
  have hc : turnC ws ls fr mn live no = no := by
    unfold turnC
    rw [if_neg (not_not_intro hg), if_neg (by omega), if_pos]
    rw [Int.toNat_natCast, Int.toNat_natCast]
    intro h
    have := h 0 (by omega)
    rw [drop_take_get _ _ _ _ _ (by omega), Nat.add_zero, hbad] at this
    simp at this
  unfold turnF
  dsimp only
  rw [hc, if_neg hno]
theorem mcheck_turn {ws : List Int} {ls : List Bool} {f : Bool} {fr mn : Int} {live : Bool} {holds no : Int} (hno : no ≠ 0) (hh : holds = 0 ∨ holds = poison) :
    ((turnF (ws, ls, f) fr mn live holds no).1 == 0) = (mcheckC (turnF (ws, ls, f) fr mn live holds no).2.1 (turnF (ws, ls, f) fr mn live holds no).2.2.1 == 0) := by
  unfold turnF
  by_cases hc : turnC ws ls fr mn live no = 0
  · rw [if_pos hc]
    obtain ⟨h1, h2, h3, h4, h5⟩ := turnC_zero hc hno
    have : MGood (setR ws fr.toNat holds mn.toNat) (setR ls fr.toNat live mn.toNat) := mgood_turn h1 (by omega) hh
    dsimp only
    rw [show mcheckC _ _ = 0 from if_pos this]
  · rw [if_neg hc]
    dsimp only
    rw [show mcheckC [] [] = 120 from if_neg (fun h => by have := h.1.1; simp at this)]
    simp [hc]
def cntT (l : List Bool) : Nat := (l.filter id).length
theorem cntT_append (a b : List Bool) : cntT (a ++ b) = cntT a + cntT b := by simp [cntT]
theorem cntT_le (a : List Bool) : cntT a ≤ a.length := List.length_filter_le _ _
theorem cntT_run (ls : List Bool) (i : Nat) : cntT (ls.drop i) = runLen ls i + cntT (ls.drop (i + runLen ls i)) := by
  have h1 : ls.drop (i + runLen ls i) = (ls.drop i).dropWhile id := by
    rw [← List.drop_drop]
    have h2 := List.takeWhile_append_dropWhile (p := id) (l := ls.drop i)
    have : (ls.drop i).drop (runLen ls i) = ((ls.drop i).takeWhile id ++ (ls.drop i).dropWhile id).drop (runLen ls i) := by rw [h2]
    rw [this]
    exact List.drop_left
  rw [h1]
  have h2 := List.takeWhile_append_dropWhile (p := id) (l := ls.drop i)
  have h3 : cntT ((ls.drop i).takeWhile id) = runLen ls i := by
    unfold cntT runLen
    rw [List.filter_eq_self.2]
    intro a ha
    exact List.all_eq_true.1 (List.all_takeWhile (p := id) (l := ls.drop i)) a ha
  conv => lhs; rw [← h2]
  rw [cntT_append, h3]
theorem spans_sum (ls : List Bool) : ∀ (f i : Nat), ls.length < i + f → ((spansAt ls f i).map Prod.snd).sum = (cntT (ls.drop i) : Int)
  | 0, i, h => by rw [List.drop_of_length_le (by omega)]; rfl
  | f + 1, i, h => by
    unfold spansAt
    by_cases hi : i < ls.length
    · rw [if_pos hi]
      by_cases hv : ls[i]?.getD false = true
      · rw [if_pos hv, List.map_cons, List.sum_cons, spans_sum ls f (i + runLen ls i) (by have := runLen_pos hi hv; omega), cntT_run ls i]
        simp
      · rw [if_neg hv, spans_sum ls f (i + 1) (by omega), List.drop_eq_getElem_cons hi]
        rw [List.getElem?_eq_getElem hi] at hv
        simp at hv
        simp [cntT, hv]
    · rw [if_neg hi, List.drop_of_length_le (by omega)]; rfl
theorem spans_pos (ls : List Bool) : ∀ (f i : Nat), ∀ x ∈ spansAt ls f i, 1 ≤ x.2
  | 0, i, x, h => by simp [spansAt] at h
  | f + 1, i, x, h => by
    unfold spansAt at h
    split at h
    · split at h
      · rename_i h1 h2
        rcases List.mem_cons.1 h with rfl | h
        · have := runLen_pos h1 h2
          show 1 ≤ (runLen ls i : Int)
          omega
        · exact spans_pos ls f _ x h
      · exact spans_pos ls f _ x h
    · simp at h
theorem sum_take_succ (l : List (Int × Int)) (j : Nat) (hj : j < l.length) : ((l.take (j + 1)).map Prod.snd).sum = ((l.take j).map Prod.snd).sum + (l[j]?.getD (0, 0)).2 := by
  rw [List.take_succ_eq_append_getElem hj, List.map_append, List.sum_append, List.getElem?_eq_getElem hj]
  simp
theorem sum_take_le (l : List (Int × Int)) (h : ∀ x ∈ l, 1 ≤ x.2) (j : Nat) : 0 ≤ ((l.take j).map Prod.snd).sum ∧ ((l.take j).map Prod.snd).sum ≤ (l.map Prod.snd).sum := by
  induction l generalizing j with
  | nil => simp
  | cons x l ih =>
    cases j with
    | zero =>
      have := (ih (fun y hy => h y (List.mem_cons_of_mem _ hy)) l.length).1
      rw [List.take_length] at this
      have hx := h x List.mem_cons_self
      simp
      omega
    | succ j =>
      have := ih (fun y hy => h y (List.mem_cons_of_mem _ hy)) j
      have hx := h x List.mem_cons_self
      rw [List.take_succ_cons, List.map_cons, List.sum_cons, List.map_cons, List.sum_cons]
      omega
theorem cntT_succ (l : List Bool) (j : Nat) (hj : j < l.length) : cntT (l.take (j + 1)) = cntT (l.take j) + (if l[j]?.getD false = true then 1 else 0) := by
  rw [List.take_succ_eq_append_getElem hj, cntT_append, List.getElem?_eq_getElem hj]
  simp only [Option.getD_some]
  cases l[j] <;> rfl
set_option maxRecDepth 100000 in
set_option maxHeartbeats 8000000 in
theorem turns_any (A : Option Addr) (n c : Nat) (B : Option Addr) (m d : Nat) (f : Bool) (xs : List Int) (ys : List Bool) (fr mn : Int) (w : World) (hx : Sl u64v 0 w 0 w.heap.size A n xs) (hy : Sl blv false w 0 w.heap.size B m ys) (hnc : n ≤ c) (hmd : m ≤ d) (hf0 : -9223372036854775808 ≤ fr) (hf1 : fr ≤ 9223372036854775807) :
    Calls Try.prog 7 #[mv A n c B m d f, .int .i64 fr, .int .i64 mn] w fun e w' => e = .returned (.bool true) ∧ Below w.heap.size w w' := by
  have hB := below_box w (.cells (mcs A n c B m d f) 25)
  have P3 := Blk.new w 25 (mcs A n c B m d f)
  replace hx := hx.step hB; replace hy := hy.step hB
  go_enter Try.func7, Try.ntmps7
  go_wp2_with fail
  generalize hW0 : (w.alloc (.cells #[.slice A n c, .slice B m d, .bool f] 25)) = W0 at *
  clear hW0
  refine (mwakes_any W0).mono ?_
  rintro e w1 ⟨rfl, hb⟩
  replace P3 := P3.step hb; replace hx := hx.step hb; replace hy := hy.step hb; replace hB := below_then hB hb
  clear hb
  obtain ⟨q00, q01, q02, q0f⟩ := P3.cells3
  go_wp2_with fail
  clear q00 q01 q02 q0f
  refine (lown_r A n c B m d f xs ys w1 hx hy hnc hmd).mono ?_
  rintro e w2 ⟨A2, n2, c2, B2, m2, d2, rfl, oa, ob, hb, hn2, hm2⟩
  have bx := below_box w2 (.cells (mcs A2 n2 c2 B2 m2 d2 f) 25)
  have hbx := below_then hb bx
  have Q7 := Blk.new w2 25 (mcs A2 n2 c2 B2 m2 d2 f)
  have R7 := Mem.ofOw (oa.step bx) (ob.step bx) (by omega) (by omega)
  replace hB := below_then hB hbx
  generalize xs.take 64 = ws at *
  generalize ys.take 64 = ls at *
  clear hbx bx hb hx hy P3 oa ob
  obtain ⟨p0, p1, p2, pf⟩ := Q7.cells3
  go_wp2_with fail
  clear p0 p1 p2 pf
  generalize (w2.alloc (.cells #[.slice A2 n2 c2, .slice B2 m2 d2, .bool f] 25)) = W3 at *
  by_cases hc : turnC ws ls fr mn true 5 = 0
  · obtain ⟨hg, h1, h2, h3, h4⟩ := turnC_zero hc (by omega)
    obtain ⟨fr, rfl⟩ := Int.eq_ofNat_of_zero_le h2
    obtain ⟨mn, rfl⟩ := Int.eq_ofNat_of_zero_le (by omega : 0 ≤ mn)
    have hl := hid R7.lenx
    have hll := hid R7.leny
    have hr : fr + mn ≤ ws.length := by omega
    have h1' : 1 ≤ mn := by omega
    have hlw : ls.length = ws.length := hg.1.2.2
    have hall : ∀ j, fr ≤ j → j < fr + mn → ls[j]?.getD false = !true := fun j e1 e2 => by
      have := h4 (j - fr) (by rw [Int.toNat_natCast]; omega)
      rw [Int.toNat_natCast, Int.toNat_natCast, drop_take_get _ _ _ _ _ (by omega), show fr + (j - fr) = j by omega] at this
      simpa using this
    have E8 : Hid (turnF (ws, ls, f) fr mn true 0 5 = (0, (setR ws fr 0 mn, setR ls fr true mn, f))) := hid (turnF_ok hg h1' hr hall)
    have hga := mgood_turn (h := 0) (l := true) hg hr (.inl rfl)
    have hla : (setR ws fr 0 mn).length = ws.length := setR_length _ _ _ _
    have hlla : (setR ls fr true mn).length = ls.length := setR_length _ _ _ _
    have E12 : Hid (turnF (setR ws fr 0 mn, setR ls fr true mn, f) fr mn false poison 4 = (0, (setR (setR ws fr 0 mn) fr poison mn, setR (setR ls fr true mn) fr false mn, f))) := hid (turnF_ok hga h1' (by omega) (fun j e1 e2 => by rw [setR_get _ _ _ _ _ _ (by omega), if_pos ⟨e1, e2⟩]; rfl))
    have hgb := mgood_turn (h := poison) (l := false) hga (by omega : fr + mn ≤ _) (.inr rfl)
    have hlb : (setR (setR ws fr 0 mn) fr poison mn).length = ws.length := by rw [setR_length, hla]
    have hllb : (setR (setR ls fr true mn) fr false mn).length = ls.length := by rw [setR_length, hlla]
    have E14 : Hid (turnF (setR (setR ws fr 0 mn) fr poison mn, setR (setR ls fr true mn) fr false mn, f) fr mn true 0 5 = (0, (setR ws fr 0 mn, setR ls fr true mn, f))) := hid (by
      rw [turnF_ok hgb h1' (by omega) (fun j e1 e2 => by rw [setR_get _ _ _ _ _ _ (by omega), if_pos ⟨e1, e2⟩]; rfl)]
      have a1 : setR (setR (setR ws fr 0 mn) fr poison mn) fr 0 mn = setR ws fr 0 mn := ext_getDg (n := ws.length) 0 (by rw [setR_length, hlb]) hla (fun j hj => by
        rw [setR_get _ _ _ _ _ _ (by omega), setR_get _ _ _ _ _ _ (by omega), setR_get _ _ _ _ _ _ hr]
        split <;> rfl)
      have a2 : setR (setR (setR ls fr true mn) fr false mn) fr true mn = setR ls fr true mn := ext_getDg (n := ls.length) false (by rw [setR_length, hllb]) hlla (fun j hj => by
        rw [setR_get _ _ _ _ _ _ (by omega), setR_get _ _ _ _ _ _ (by omega), setR_get _ _ _ _ _ _ (by omega)]
        split <;> rfl)
      rw [a1, a2])
    have E16 : Hid (turnF (setR ws fr 0 mn, setR ls fr true mn, f) fr mn true 0 5 = (5, ([], [], false))) := hid (turnF_no hga h1' (by omega) (by omega) (by rw [setR_get _ _ _ _ _ _ (by omega), if_pos (by omega)]))
    have E18 : Hid (turnF (setR (setR ws fr 0 mn) fr poison mn, setR (setR ls fr true mn) fr false mn, f) fr mn false poison 4 = (4, ([], [], false))) := hid (turnF_no hgb h1' (by omega) (by omega) (by rw [setR_get _ _ _ _ _ _ (by omega), if_pos (by omega)]))
    have hwb : Hid (∀ j, fr ≤ j → j < fr + mn → (setR (setR ws fr 0 mn) fr poison mn)[j]?.getD 0 = poison) := hid (fun j e1 e2 => by rw [setR_get _ _ _ _ _ _ (by omega), if_pos ⟨e1, e2⟩])
    have hwa : Hid (∀ j, fr ≤ j → j < fr + mn → (setR ws fr 0 mn)[j]?.getD 0 = 0) := hid (fun j e1 e2 => by rw [setR_get _ _ _ _ _ _ (by omega), if_pos ⟨e1, e2⟩])
    have hlv : Hid (∀ j, fr ≤ j → j < fr + mn → (setR (setR ls fr true mn) fr false mn)[j]?.getD false = false) := hid (fun j e1 e2 => by rw [setR_get _ _ _ _ _ _ (by omega), if_pos ⟨e1, e2⟩])
    have hmb : Hid (mcheckC (setR (setR ws fr 0 mn) fr poison mn) (setR (setR ls fr true mn) fr false mn) = 0) := hid (if_pos hgb)
    have HGB := hid hgb
    have HGA := hid hga
    have hln : Hid ((setR ls fr true mn).length = n2 ∧ (setR (setR ws fr 0 mn) fr poison mn).length = n2 ∧ fr + mn ≤ n2) := hid (by have := hl.out; omega)
    generalize setR (setR ws fr 0 mn) fr poison mn = wb at *
    generalize setR (setR ls fr true mn) fr false mn = lb at *
    generalize setR ws fr 0 mn = wa at *
    generalize setR ls fr true mn = la at *
    clear hg h1 h2 h3 h4 hall hc hga hgb hla hlla hlb hllb hr hlw
    refine (mlive_any A2 n2 c2 B2 m2 d2 f fr mn ws ls W3 R7 hf0 hf1).mono ?_
    rintro e w8 ⟨A8, n8, c8, B8, m8, d8, rfl, O8, hb8⟩
    rw [E8.out] at O8 ⊢
    dsimp only at O8 ⊢
    have bx8 := below_box w8 (.cells (mcs A8 n8 c8 B8 m8 d8 f) 25)
    have bq8 := below_then hb8 bx8
    replace O8 := O8.step bx8
    have R8 := O8.mem
    have M8 := Blk.new w8 25 (mcs A8 n8 c8 B8 m8 d8 f)
    replace hB := below_then hB bq8
    clear bx8 bq8 hb8
    obtain ⟨p0, p1, p2, pf⟩ := M8.cells3
    go_wp2_with fail
    generalize (w8.alloc (.cells #[.slice A8 n8 c8, .slice B8 m8 d8, .bool f] 25)) = W4 at *
    clear p0 p1 p2 pf Q7 R7
    refine (mfree_any A8 n8 c8 B8 m8 d8 f fr mn wa la W4 R8 hf0 hf1).mono ?_
    rintro e w12 ⟨A12, n12, c12, B12, m12, d12, rfl, O12, hb12⟩
    rw [E12.out] at O12 ⊢
    dsimp only at O12 ⊢
    have bx12 := below_box w12 (.cells (mcs A12 n12 c12 B12 m12 d12 f) 25)
    have bq12 := below_then hb12 bx12
    replace O12 := O12.step bx12
    have R12 := O12.mem
    have M12 := Blk.new w12 25 (mcs A12 n12 c12 B12 m12 d12 f)
    replace M8 := M8.step bq12
    replace R8 := R8.step bq12
    replace hB := below_then hB bq12
    clear bx12 bq12 hb12
    obtain ⟨p0, p1, p2, pf⟩ := M12.cells3
    go_wp2_with fail
    generalize (w12.alloc (.cells #[.slice A12 n12 c12, .slice B12 m12 d12, .bool f] 25)) = W5 at *
    clear p0 p1 p2 pf
    refine (mlive_any A12 n12 c12 B12 m12 d12 f fr mn wb lb W5 R12 hf0 hf1).mono ?_
    rintro e w14 ⟨A14, n14, c14, B14, m14, d14, rfl, O14, hb14⟩
    rw [E14.out] at O14 ⊢
    dsimp only at O14 ⊢
    have bx14 := below_box w14 (.cells (mcs A14 n14 c14 B14 m14 d14 f) 25)
    have bq14 := below_then hb14 bx14
    replace O14 := O14.step bx14
    have R14 := O14.mem
    have M14 := Blk.new w14 25 (mcs A14 n14 c14 B14 m14 d14 f)
    replace M8 := M8.step bq14
    replace R8 := R8.step bq14
    replace M12 := M12.step bq14
    replace O12 := O12.step bq14
    replace hB := below_then hB bq14
    clear bx14 bq14 hb14
    obtain ⟨p0, p1, p2, pf⟩ := M8.cells3
    go_wp2_with fail
    generalize (w14.alloc (.cells #[.slice A14 n14 c14, .slice B14 m14 d14, .bool f] 25)) = W6 at *
    clear p0 p1 p2 pf
    refine (mlive_any A8 n8 c8 B8 m8 d8 f fr mn wa la W6 R8 hf0 hf1).mono ?_
    rintro e w16 ⟨A16, n16, c16, B16, m16, d16, rfl, O16, hb16⟩
    rw [E16.out] at O16 ⊢
    dsimp only at O16 ⊢
    have bx16 := below_box w16 (.cells (mcs A16 n16 c16 B16 m16 d16 false) 25)
    have bq16 := below_then hb16 bx16
    replace O16 := O16.step bx16
    have R16 := O16.mem
    have M16 := Blk.new w16 25 (mcs A16 n16 c16 B16 m16 d16 false)
    replace M8 := M8.step bq16
    replace R8 := R8.step bq16
    replace M12 := M12.step bq16
    replace O12 := O12.step bq16
    replace M14 := M14.step bq16
    replace O14 := O14.step bq16
    replace hB := below_then hB bq16
    clear bx16 bq16 hb16
    obtain ⟨p0, p1, p2, pf⟩ := M12.cells3
    go_wp2_with fail
    generalize (w16.alloc (.cells #[.slice A16 n16 c16, .slice B16 m16 d16, .bool false] 25)) = W7 at *
    clear p0 p1 p2 pf
    refine (mfree_any A12 n12 c12 B12 m12 d12 f fr mn wb lb W7 O12.mem hf0 hf1).mono ?_
    rintro e w18 ⟨A18, n18, c18, B18, m18, d18, rfl, O18, hb18⟩
    rw [E18.out] at O18 ⊢
    dsimp only at O18 ⊢
    have bx18 := below_box w18 (.cells (mcs A18 n18 c18 B18 m18 d18 false) 25)
    have bq18 := below_then hb18 bx18
    replace O18 := O18.step bx18
    have R18 := O18.mem
    have M18 := Blk.new w18 25 (mcs A18 n18 c18 B18 m18 d18 false)
    replace M8 := M8.step bq18
    replace R8 := R8.step bq18
    replace M12 := M12.step bq18
    replace O12 := O12.step bq18
    replace M14 := M14.step bq18
    replace O14 := O14.step bq18
    replace hB := below_then hB bq18
    clear bx18 bq18 hb18
    obtain ⟨p0, p1, p2, pf⟩ := M12.cells3
    obtain ⟨k0, k1, k2, kf⟩ := M8.cells3
    obtain ⟨r0, r1, r2, rf⟩ := M14.cells3
    go_wp2_with fail
    generalize (w18.alloc (.cells #[.slice A18 n18 c18, .slice B18 m18 d18, .bool false] 25)) = W8 at *
    clear p0 p1 p2 pf k0 k1 k2 kf r0 r1 r2 rf
    refine (msame_any A8 n8 c8 B8 m8 d8 f wa la A14 n14 c14 B14 m14 d14 f wa la W8 R8 O14.mem).mono ?_
    rintro e W9 ⟨rfl, hb⟩
    rw [show sameM (wa, la, f) (wa, la, f) = true from decide_eq_true ⟨rfl, rfl, rfl⟩]
    replace M12 := M12.step hb; replace O12 := O12.step hb; replace M14 := M14.step hb; replace O14 := O14.step hb; replace hB := below_then hB hb
    obtain ⟨p0, p1, p2, pf⟩ := M12.cells3
    clear hb M8 R8 O8 M16 O16 R16 M18 O18 R18 R12 R14
    go_wp2_with fail
    clear p0 p1 p2 pf
    refine (mcheck_any A12 n12 c12 B12 m12 d12 f wb lb W9 O12.mem).mono ?_
    rintro e W10 ⟨rfl, hb⟩
    rw [hmb.out]
    have HM12 := hid (M12.step hb); have HO12 := hid (O12.step hb); have HM14 := hid (M14.step hb); have HO14 := hid (O14.step hb); have HB := hid (below_then hB hb)
    clear hb M12 O12 M14 O14 hB
    obtain ⟨hn1, hn2, hn3⟩ := hln.out
    have hn12 := hid (show n12 = n2 by have := HO12.out.oa.len; omega)
    have hn14 := hid (show n14 = n2 by have := HO14.out.oa.len; have := HO14.out.ob.len; have := HGA.out.1.2.2; omega)
    have hm14 := hid (show m14 = n2 by have := HO14.out.ob.len; omega)
    clear hn1 hn2
    go_wp2_with fail
    go_loopw [115, 20] (fun i c wr => ∃ j : Nat, j ≤ mn ∧ i = .int .i64 j ∧ c = .int .i64 j ∧ Below W10.heap.size W10 wr) (fun i _ _ => mn - (intOf i).toNat)
    case atStart => exact ⟨0, Nat.zero_le _, rfl, rfl, Below.refl _ _⟩
    case round =>
      obtain ⟨j, hj, rfl, rfl, hb⟩ := hrel
      by_cases hjl : j < mn
      · have hw : IntKind.i64.wrap ((fr : Int) + (j : Int)) = (fr : Int) + (j : Int) := by rw [IntKind.wrap_i64]; omega
        have E22 : Hid (accF (wb, lb, f) (1, (fr : Int) + (j : Int), 0, 0) = (0, ((wb, lb, true), (0, false)))) := hid (by
          have ha : goodAt (wb, lb, f) ((fr : Int) + (j : Int)) = false := by
            rw [Bool.eq_false_iff]
            intro h
            obtain ⟨k, hk, _, hv⟩ := goodAt_iff.1 h
            obtain rfl : fr + j = k := by omega
            rw [hlv.out (fr + j) (by omega) (by omega)] at hv
            cases hv
          unfold accF stepM
          rw [if_neg (not_not_intro HGB.out), if_neg (by simp), if_pos ha])
        have M12 := HM12.out.step hb
        have R12 := (HO12.out.step hb).mem
        have R14 := (HO14.out.step hb).mem
        have M14 := HM14.out.step hb
        obtain ⟨p0, p1, p2, pf⟩ := M12.cells3
        have hB := hb
        clear hb
        go_wp2_with fail
        clear p0 p1 p2 pf
        refine (mstep_any A12 n12 c12 B12 m12 d12 f 1 _ 0 0 wb lb wr R12).mono ?_
        rintro e w22 ⟨A22, n22, c22, B22, m22, d22, rfl, O22, hb22⟩
        rw [E22.out] at O22 ⊢
        dsimp only at O22 ⊢
        have bx22 := below_then (below_box w22 (.cells (mcs A22 n22 c22 B22 m22 d22 true) 25)) (below_box _ (.cells #[.int .u64 0, .bool false] 47))
        have bq22 := below_then hb22 bx22
        replace O22 := O22.step bx22
        have R22 := O22.mem
        have M22 := (Blk.new w22 25 (mcs A22 n22 c22 B22 m22 d22 true)).step (below_box _ (.cells #[.int .u64 0, .bool false] 47))
        have G22 := Blk.new2 w22 47 #[.int .u64 0, .bool false] (.cells (mcs A22 n22 c22 B22 m22 d22 true) 25)
        replace M12 := M12.step bq22
        replace R12 := R12.step bq22
        replace M14 := M14.step bq22
        replace R14 := R14.step bq22
        replace hB := below_then hB bq22
        clear bx22 bq22 hb22
        have HB22 := hid hB
        obtain ⟨b5, f5, rfl, _, _, c5⟩ := R12.hx.row (by have := hn12.out; omega)
        obtain ⟨b6, f6, rfl, _, _, c6⟩ := R14.hx.row (by have := hn14.out; omega)
        have g5 := c5 (fr + j) (by have := hn12.out; omega)
        have g6 := c6 (fr + j) (by have := hn14.out; omega)
        rw [hwb.out (fr + j) (by omega) (by omega)] at g5
        rw [hwa.out (fr + j) (by omega) (by omega)] at g6
        have i12 : (fr : Int) + (j : Int) < (n12 : Int) := by have := hn12.out; omega
        have i14 : (fr : Int) + (j : Int) < (n14 : Int) := by have := hn14.out; omega
        have i0 : (0 : Int) ≤ (fr : Int) + (j : Int) := by omega
        have hnat : ((fr : Int) + (j : Int)).toNat = fr + j := by omega
        obtain ⟨p0, p1, p2, pf⟩ := M12.cells3
        obtain ⟨k0, k1, k2, kf⟩ := M14.cells3
        obtain ⟨r0, r1, rf⟩ := G22.cells2
        clear c5 c6 hB M12 R12 M14 R14 M22 R22 O22 G22
        unfold poison at g5
        go_wp2
        go_roundw
        case rel => exact ⟨j + 1, by omega, by go_num, by go_num, HB22.out⟩
        case measure => simp [intOf]; omega
      · obtain rfl : j = mn := by omega
        have R14 := (HO14.out.step hb).mem
        have M14 := HM14.out.step hb
        have O14 := HO14.out.step hb
        have hB := below_then HB.out hb
        clear hb
        obtain ⟨k0, k1, k2, kf⟩ := M14.cells3
        go_wp2_with fail
        clear k0 k1 k2 kf
        refine (mspans_any A14 n14 c14 B14 m14 d14 f wa la wr R14).mono ?_
        rintro e W11 ⟨A25, n25, c25, rfl, G25, hb⟩
        have hsp : spansF wa la = spansL la := if_pos HGA.out
        rw [hsp] at G25
        have hlen : Hid ((spansL la).length = n25) := hid G25.len
        have hsum : Hid (((spansL la).map Prod.snd).sum = (cntT la : Int)) := hid (by have := spans_sum la (la.length + 1) 0 (by omega); rw [List.drop_zero] at this; exact this)
        have hpos : Hid (∀ x ∈ spansL la, 1 ≤ x.2) := hid (spans_pos la _ 0)
        have hcl : Hid (cntT la ≤ 100000) := hid (by have := cntT_le la; have := O14.ob.len; have := O14.hm; omega)
        have HM14 := hid (M14.step hb); have HO14 := hid (O14.step hb); have HB := hid (below_then hB hb); have HG := hid G25
        have hn25 : n25 ≤ 9223372036854775807 := by have := G25.cap; unfold maxLen at this; omega
        clear hb hsp G25 hB M14 R14 O14
        go_wp2_with fail
        go_loopw [158, 25] (fun i c wr => ∃ j : Nat, j ≤ n25 ∧ i = .int .i64 j ∧ c = .int .i64 (((spansL la).take j).map Prod.snd).sum ∧ Below W11.heap.size W11 wr) (fun i _ _ => n25 - (intOf i).toNat)
        case atStart => exact ⟨0, Nat.zero_le _, rfl, rfl, Below.refl _ _⟩
        case round =>
          obtain ⟨j, hj, rfl, rfl, hb⟩ := hrel
          by_cases hjl : j < n25
          · obtain ⟨b5, f5, rfl, _, hb5, c5⟩ := (HG.out.sm (d := (0, 0))).row (by omega)
            have g0 := (hb.cell (p := ⟨b5, f5 + j * 2 + 0, none⟩) hb5).trans (c5 j hjl 0 (by omega))
            have g1 := (hb.cell (p := ⟨b5, f5 + j * 2 + 1, none⟩) hb5).trans (c5 j hjl 1 (by omega))
            have hs := sum_take_succ (spansL la) j (by rw [hlen.out]; exact hjl)
            have hle := sum_take_le (spansL la) hpos.out (j + 1)
            have hle0 := sum_take_le (spansL la) hpos.out j
            have hge : 1 ≤ ((spansL la)[j]?.getD (0, 0)).2 := by
              rw [List.getElem?_eq_getElem (by rw [hlen.out]; exact hjl)]
              exact hpos.out _ (List.getElem_mem _)
            rw [hsum.out] at hle hle0
            have hcl' := hcl.out
            obtain ⟨⟨x0, x1⟩, hX⟩ : ∃ x, x = (spansL la)[j]?.getD (0, 0) := ⟨_, rfl⟩
            rw [← hX] at g0 g1 hs hge
            dsimp only at hs hge
            simp only [encP, Nat.add_zero] at g0 g1
            obtain ⟨z0, hz0⟩ : ∃ z, z = (((spansL la).take j).map Prod.snd).sum := ⟨_, rfl⟩
            obtain ⟨z1, hz1⟩ : ∃ z, z = (((spansL la).take (j + 1)).map Prod.snd).sum := ⟨_, rfl⟩
            rw [← hz0, ← hz1] at hs
            rw [← hz0] at hle0
            rw [← hz1] at hle
            rw [← hz0]
            have HZ1 := hid hz1; have HZ0 := hid hz0; have HS := hid hs
            have HB2 := hid (below_then hb (below_box wr (.cells #[.int .i64 x0, .int .i64 x1] 29)))
            have hw : IntKind.i64.wrap (z0 + x1) = z0 + x1 := by rw [IntKind.wrap_i64]; omega
            clear c5 hX hz0 hz1 hs hb
            go_wp2
            go_roundw
            case rel => exact ⟨j + 1, by omega, by go_num, by rw [← HZ1.out, HS.out], HB2.out⟩
            case measure => simp [intOf]; omega
          · obtain rfl : j = n25 := by omega
            have M14 := HM14.out.step hb
            have O14 := hid (HO14.out.step hb)
            have HBB := hid (below_then HB.out hb)
            have hst : (((spansL la).take j).map Prod.snd).sum = (cntT la : Int) := by rw [List.take_of_length_le (by rw [hlen.out]; exact Nat.le_refl _)]; exact hsum.out
            rw [hst]
            obtain ⟨k0, k1, k2, kf⟩ := M14.cells3
            have hm100 : m14 ≤ 100000 := O14.out.hm
            clear hst hb M14
            go_wp2_with fail
            clear k0 k1 k2 kf
            go_loopw [173, 28] (fun i c wx => ∃ q : Nat, q ≤ m14 ∧ i = .int .i64 q ∧ c = .int .i64 (cntT (la.take q)) ∧ wx = wr) (fun i _ _ => m14 - (intOf i).toNat)
            case atStart => exact ⟨0, Nat.zero_le _, rfl, rfl, rfl⟩
            case round =>
              obtain ⟨q, hq, rfl, rfl, rfl⟩ := hrel
              have hl14 : Hid (la.length = m14) := hid O14.out.ob.len
              by_cases hql : q < m14
              · obtain ⟨b5, f5, rfl, _, hb5, c5⟩ := (O14.out.ob.sl (d := false)).row (by omega)
                have g0 := c5 q hql
                have hs := cntT_succ la q (by rw [hl14.out]; exact hql)
                have hle := cntT_le (la.take q)
                rw [List.length_take] at hle
                obtain ⟨x, hX⟩ : ∃ x, x = la[q]?.getD false := ⟨_, rfl⟩
                rw [← hX] at g0 hs
                obtain ⟨z0, hz0⟩ : ∃ z, z = cntT (la.take q) := ⟨_, rfl⟩
                rw [← hz0] at hs hle
                rw [← hz0]
                have HS := hid hs
                have hz : z0 ≤ 100000 := by omega
                clear c5 hX hz0 hs hle
                cases x
                · go_wp2
                  go_roundw
                  case rel => exact ⟨q + 1, by omega, by go_num, by rw [HS.out]; rfl, trivial⟩
                  case measure => simp [intOf]; omega
                · go_wp2
                  go_roundw
                  case rel => exact ⟨q + 1, by omega, by go_num, by rw [HS.out]; rfl, trivial⟩
                  case measure => simp [intOf]; omega
              · obtain rfl : q = m14 := by omega
                rw [show la.take q = la from List.take_of_length_le (by rw [hl14.out]; exact Nat.le_refl _)]
                have e1 : ((cntT la : Int) == (cntT la : Int)) = true := by simp
                go_wp2
                go_ret
                exact ⟨rfl, HBB.out⟩
  · obtain ⟨r, hr⟩ : ∃ r, r = turnF (ws, ls, f) fr mn false poison 4 := ⟨_, rfl⟩
    have hmt := mcheck_turn (ws := ws) (ls := ls) (f := f) (fr := fr) (mn := mn) (live := false) (holds := poison) (no := 4) (by omega) (.inr rfl)
    rw [← hr] at hmt
    have E8 : Hid (turnF (ws, ls, f) fr mn true 0 5 = (turnC ws ls fr mn true 5, ([], [], false))) := hid (if_neg hc)
    generalize turnC ws ls fr mn true 5 = code at *
    obtain ⟨bc, wb, lb, fb⟩ := r
    dsimp only at hmt
    have E10 : Hid (turnF (ws, ls, f) fr mn false poison 4 = (bc, (wb, lb, fb))) := hid hr.symm
    have hc0 : (code != 0) = true := by simpa using hc
    obtain ⟨mc, hmc⟩ : ∃ x, x = mcheckC wb lb := ⟨_, rfl⟩
    rw [← hmc] at hmt
    have HMC := hid hmc
    have HMT := hid hmt
    clear hmc hmt hr hc
    refine (mlive_any A2 n2 c2 B2 m2 d2 f fr mn ws ls W3 R7 hf0 hf1).mono ?_
    rintro e w8 ⟨A8, n8, c8, B8, m8, d8, rfl, O8, hb8⟩
    rw [E8.out] at O8 ⊢
    dsimp only at O8 ⊢
    obtain rfl : 0 = n8 := O8.oa.len
    obtain rfl : 0 = m8 := O8.ob.len
    have bx8 := below_box w8 (.cells (mcs A8 0 c8 B8 0 d8 false) 25)
    have bq8 := below_then hb8 bx8
    replace O8 := O8.step bx8
    have R8 := O8.mem
    have M8 := Blk.new w8 25 (mcs A8 0 c8 B8 0 d8 false)
    replace Q7 := Q7.step bq8
    replace R7 := R7.step bq8
    replace hB := below_then hB bq8
    clear bx8 bq8 hb8
    obtain ⟨p0, p1, p2, pf⟩ := Q7.cells3
    go_wp2_with fail
    generalize (w8.alloc (.cells #[.slice A8 0 c8, .slice B8 0 d8, .bool false] 25)) = W4 at *
    clear p0 p1 p2 pf
    refine (mfree_any A2 n2 c2 B2 m2 d2 f fr mn ws ls W4 R7 hf0 hf1).mono ?_
    rintro e w10 ⟨A10, n10, c10, B10, m10, d10, rfl, O10, hb10⟩
    rw [E10.out] at O10 ⊢
    dsimp only at O10 ⊢
    have bx10 := below_box w10 (.cells (mcs A10 n10 c10 B10 m10 d10 fb) 25)
    have bq10 := below_then hb10 bx10
    replace O10 := O10.step bx10
    have R10 := O10.mem
    have M10 := Blk.new w10 25 (mcs A10 n10 c10 B10 m10 d10 fb)
    replace M8 := M8.step bq10
    replace hB := below_then hB bq10
    clear bx10 bq10 hb10
    obtain ⟨p0, p1, p2, pf⟩ := M8.cells3
    go_wp2_with fail
    generalize (w10.alloc (.cells #[.slice A10 n10 c10, .slice B10 m10 d10, .bool fb] 25)) = W5 at *
    clear p0 p1 p2 pf
    refine (mnone_any A8 0 c8 B8 0 d8 false W5 (by omega) (by omega)).mono ?_
    rintro e w6 ⟨rfl, hb⟩
    replace M10 := M10.step hb; replace R10 := R10.step hb; replace hB := below_then hB hb
    obtain ⟨p0, p1, p2, pf⟩ := M10.cells3
    clear hb
    go_wp2_with fail
    clear p0 p1 p2 pf
    refine (mcheck_any A10 n10 c10 B10 m10 d10 fb wb lb w6 R10).mono ?_
    rintro e w7 ⟨rfl, hb⟩
    rw [← HMC.out]
    have HBF := hid (below_then hB hb)
    have hmt := HMT.out
    obtain ⟨b1, hb1⟩ : ∃ b, b = (bc == 0) := ⟨_, rfl⟩
    obtain ⟨b2, hb2⟩ : ∃ b, b = (mc == 0) := ⟨_, rfl⟩
    rw [← hb1, ← hb2] at hmt
    subst hmt
    have e1 := hb1.symm; have e2 := hb2.symm
    have e3 : (b1 == b1) = true := by simp
    clear hB hb M8 M10 R10 O8 O10 Q7 R7 HMT hb1 hb2
    go_wp2
    go_ret
    exact ⟨rfl, HBF.out⟩
end Go.Proofs.Ytenhojdhjfoomaa
