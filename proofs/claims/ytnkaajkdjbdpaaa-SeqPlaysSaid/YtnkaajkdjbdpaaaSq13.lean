/- package seq: rows of writes. No condition but sizes. -/
import Derived.Test.YtnkaajkdjbdpaaaSq12
import Derived.Test.YtnkaajkdjbdpaaaKitA
namespace Go.Proofs.Ytnkaajkdjbdpaaa
open Go.RowKit
/-- a write in a row: itself, and where its values lie -/
abbrev WrE := Swr × Option Addr × Nat × Nat
def zWe : WrE := (zWr, none, 0, 0)
def encW (x : WrE) : Nat → Value
  | 0 => .int .i64 x.1.a
  | 1 => .int .i64 x.1.f
  | 2 => .slice x.2.1 x.2.2.1 x.2.2.2
  | 3 => .int .i64 x.1.ph
  | 4 => .int .u64 x.1.bg
  | _ => .int .i64 x.1.wr
theorem encW_one (y : WrE) (j : Nat) (_ : j < 6) : (encW y j).oneCell' = true := by
  match j with | 0 => rfl | 1 => rfl | 2 => rfl | 3 => rfl | 4 => rfl | j + 5 => rfl
theorem info_wr : (Try.prog.info? 34).map (fun i => (i.zero, i.size, i.bytes)) = some (some (.agg #[.int .i64 0, .int .i64 0, .slice none 0 0, .int .i64 0, .int .u64 0, .int .i64 0]), 6, 64) := by kernel_rfl
/-- values that can be read: below B, or owned -/
def VRow (W : World) (B : Nat) (V : Option Addr) (n : Nat) (vs : List Int) : Prop := Sl u64v 0 W 0 B V n vs ∨ ∃ lo c, Ow u64v W lo 27 V n c vs
theorem VRow.sl {W : World} {B : Nat} {V : Option Addr} {n : Nat} {vs : List Int} (h : VRow W B V n vs) (hB : B ≤ W.heap.size) : Sl u64v 0 W 0 W.heap.size V n vs := by
  rcases h with h | ⟨lo, c, h⟩
  · exact h.mono (Nat.le_refl _) hB
  · exact h.sl.mono (Nat.zero_le _) (Nat.le_refl _)
theorem VRow.step {W W' : World} {B : Nat} {V : Option Addr} {n : Nat} {vs : List Int} (h : VRow W B V n vs) (hB : B ≤ W.heap.size) (hb : Below W.heap.size W W') : VRow W' B V n vs := by
  rcases h with h | ⟨lo, c, h⟩
  · exact .inl (h.below hb hB)
  · exact .inr ⟨lo, c, h.step hb⟩
theorem VRow.kept {W W' : World} {B : Nat} {V : Option Addr} {n : Nat} {vs : List Int} (h : VRow W B V n vs) {g : Nat} {t : TypeId} {cs : Array Value} (hb : Blk W g t cs) (h1 : t ≠ 27) (hB : B ≤ g) (hg : W.grownBy W' (some g)) : VRow W' B V n vs := by
  rcases h with h | ⟨lo, c, h⟩
  · refine .inl (h.keep fun b o _ h2 => ?_)
    have hlt : b < W.heap.size := by have := hb.lt; omega
    have e := hg.block b hlt (fun e => by have : b = g := by simpa using e
                                          omega)
    exact World.cell?_of_block (a := ⟨b, o, none⟩) e
  · exact .inr ⟨lo, c, h.keptG hg (fun v hv e => h.ne_blk hb h1 v hv (by simpa using e))⟩
/-- the values of a row of writes can be read -/
def VRows (W : World) (B : Nat) (es : List WrE) : Prop := ∀ x ∈ es, VRow W B x.2.1 x.2.2.1 x.1.vs ∧ x.2.2.1 ≤ 100000
theorem VRows.step {W W' : World} {B : Nat} {es : List WrE} (h : VRows W B es) (hB : B ≤ W.heap.size) (hb : Below W.heap.size W W') : VRows W' B es := fun x hx => ⟨(h x hx).1.step hB hb, (h x hx).2⟩
theorem VRows.kept {W W' : World} {B : Nat} {es : List WrE} (h : VRows W B es) {g : Nat} {t : TypeId} {cs : Array Value} (hb : Blk W g t cs) (h1 : t ≠ 27) (hB : B ≤ g) (hg : W.grownBy W' (some g)) : VRows W' B es := fun x hx => ⟨(h x hx).1.kept hb h1 hB hg, (h x hx).2⟩
theorem VRows.set {W : World} {B : Nat} {es : List WrE} (h : VRows W B es) (i : Nat) {x : WrE} (hx : VRow W B x.2.1 x.2.2.1 x.1.vs ∧ x.2.2.1 ≤ 100000) : VRows W B (es.set i x) := fun y hy => by
  rcases List.mem_or_eq_of_mem_set hy with h1 | h1
  · exact h y h1
  · rw [h1]; exact hx
theorem VRows.at_ {W : World} {B : Nat} {es : List WrE} (h : VRows W B es) {k : Nat} (hk : k < es.length) : VRow W B (es[k]?.getD zWe).2.1 (es[k]?.getD zWe).2.2.1 (es[k]?.getD zWe).1.vs ∧ (es[k]?.getD zWe).2.2.1 ≤ 100000 := by
  rw [List.getElem?_eq_getElem hk]; exact h _ (List.getElem_mem hk)
set_option maxHeartbeats 400000 in
theorem clone_wr (A : Option Addr) (n c lo : Nat) (xs : List _) (w : World) (h : Sm 6 encW zWe w lo w.heap.size A n xs) (hn : n ≤ 1000000) :
    Calls Try.prog 46 #[.slice A n c] w fun e w' => ∃ A' c', e = .returned (.slice A' n c') ∧ Om 6 encW w' w.heap.size 34 A' n c' xs ∧ Below w.heap.size w w' := by
  obtain ⟨i0, hi0, hz00, hz01, hz02⟩ := info_parts info_wr
  have hq := fun W a n c => run_eqnil (P := Try.prog) (t := 45) Try.underlying45 W a n c
  rcases A with _ | ad
  · obtain ⟨rfl, rfl⟩ := h.none_
    go_enter Try.func46, Try.ntmps46
    go_wp2
    go_ret
    exact ⟨none, 0, rfl, Om.nil _ _ _, Below.refl _ _⟩
  · go_enter Try.func46, Try.ntmps46
    go_wp2_with (at_builtin; refine wpList_appm 6 encW zWe _ rfl _ _ 45 rfl w.heap.size 34 i0 _ 64 Try.underlying45 hi0 hz00 hz01 hz02 rfl (by omega) _ _ _ [] rfl (Om.empty w _ _ (Nat.le_refl _)) lo w.heap.size (some ad) n c xs rfl (h.alloc (Nat.le_refl _) _) encW_one (by simp only [maxLen]; omega) (by omega) (by simp) ?_; intro A1 c1 w1 hown1 hg1 hat1; simp only [Nat.zero_add, List.nil_append] at hown1)
    go_ret
    refine ⟨A1, c1, by simp, hown1, ?_⟩
    exact ((Below.refl _ w).alloc (Nat.le_refl _) _).grown hg1 (by simp) (fun k hk => by simp [Value.ownBlock] at hk; omega)

/-- the first that p says is so, or -1 -/
def fstIx (p : WrE → Bool) : List WrE → Int
  | [] => -1
  | x :: l => if p x = true then 0 else if fstIx p l < 0 then -1 else fstIx p l + 1
theorem fstIx_at (p : WrE → Bool) : ∀ (l : List WrE) (j : Nat), j < l.length → (∀ k, k < j → p (l[k]?.getD zWe) = false) → p (l[j]?.getD zWe) = true → fstIx p l = j
  | [], j, h, _, _ => absurd h (by simp)
  | x :: l, 0, _, _, h => by simp only [List.getElem?_cons_zero, Option.getD_some] at h; simp [fstIx, h]
  | x :: l, j + 1, hj, hk, h => by
    have h0 := hk 0 (by omega)
    simp only [List.getElem?_cons_zero, Option.getD_some] at h0
    have := fstIx_at p l j (by simpa using hj) (fun k hk' => by have := hk (k + 1) (by omega); simpa using this) (by simpa using h)
    simp only [fstIx, h0, this, Bool.false_eq_true, if_false]
    rw [if_neg (by omega)]
    omega
theorem fstIx_no (p : WrE → Bool) : ∀ (l : List WrE), (∀ k, k < l.length → p (l[k]?.getD zWe) = false) → fstIx p l = -1
  | [], _ => rfl
  | x :: l, h => by
    have h0 := h 0 (by simp)
    simp only [List.getElem?_cons_zero, Option.getD_some] at h0
    have := fstIx_no p l (fun k hk => by have := h (k + 1) (by simpa using hk); simpa using this)
    simp [fstIx, h0, this]
def badW (x : WrE) : Bool := decide (¬ WrOk x.1.a x.1.f x.2.2.1 x.1.ph x.1.bg x.1.wr)
def goesW (x : WrE) : Bool := decide (x.1.ph < 4)
set_option maxHeartbeats 2000000 in
theorem badw_any (s : Swr) (V : Option Addr) (vn vc : Nat) (w : World) (hv : Sl u64v 0 w 0 w.heap.size V vn s.vs) (hvn : vn ≤ 100000) : Calls Try.prog 42 #[wrV s V vn vc] w fun e w' => e = .returned (.bool (badW (s, V, vn, vc))) ∧ Below w.heap.size w w' := by
  have HV := hid hv; have HB := hid (Below.refl w.heap.size w)
  have HE := hid (show badW (s, V, vn, vc) = decide (¬ WrOk s.a s.f vn s.ph s.bg s.wr) from rfl)
  clear hv
  have bx := below_box w (.cells (wrc s.a s.f V vn vc s.ph s.bg s.wr) 34)
  replace HV := hid (HV.out.step bx); replace HB := hid (below_then HB.out bx)
  clear bx
  have PS := hid (Blk.new w 34 (wrc s.a s.f V vn vc s.ph s.bg s.wr))
  go_enter Try.func42, Try.ntmps42
  obtain ⟨y00, y01, y02, y03, y04, y05, yf0⟩ := PS.out.cells6
  go_wp2_with fail
  clear y00 y01 y02 y03 y04 y05 yf0
  refine (scheckwrite_any s.a s.f V vn vc s.ph s.bg s.wr s.vs _ HV.out hvn).mono ?_
  rintro e w1 ⟨rfl, hb⟩
  replace HV := hid (HV.out.step hb); replace PS := hid (PS.out.step hb); replace HB := hid (below_then HB.out hb)
  clear hb
  by_cases hg : WrOk s.a s.f vn s.ph s.bg s.wr
  · rw [decide_eq_true hg]
    dsimp only [if_true, if_false, Bool.false_eq_true]
    have E := hid (HE.out.trans (decide_eq_false (not_not_intro hg)))
    clear hg
    go_wp2
    go_ret
    exact ⟨ret_bool E.out.symm, HB.out⟩
  · rw [decide_eq_false hg]
    dsimp only [if_true, if_false, Bool.false_eq_true]
    have E := hid (HE.out.trans (decide_eq_true hg))
    clear hg
    go_wp2
    go_ret
    exact ⟨ret_bool E.out.symm, HB.out⟩
set_option maxHeartbeats 2000000 in
theorem goesw_any (s : Swr) (V : Option Addr) (vn vc : Nat) (w : World) : Calls Try.prog 47 #[wrV s V vn vc] w fun e w' => e = .returned (.bool (goesW (s, V, vn, vc))) ∧ Below w.heap.size w w' := by
  have HB := hid (Below.refl w.heap.size w)
  have bx := below_box w (.cells (wrc s.a s.f V vn vc s.ph s.bg s.wr) 34)
  replace HB := hid (below_then HB.out bx)
  clear bx
  have PS := hid (Blk.new w 34 (wrc s.a s.f V vn vc s.ph s.bg s.wr))
  go_enter Try.func47, Try.ntmps47
  obtain ⟨y00, y01, y02, y03, y04, y05, yf0⟩ := PS.out.cells6
  go_wp2
  clear y00 y01 y02 y03 y04 y05 yf0
  go_ret
  exact ⟨rfl, HB.out⟩
set_option maxHeartbeats 2000000 in
theorem ixbad_any (A : Option Addr) (n c lo B : Nat) (es : List WrE) (w : World) (h : Sm 6 encW zWe w lo w.heap.size A n es) (hv : VRows w B es) (hB : B ≤ w.heap.size) (hn : n ≤ 1000000) :
    Calls Try.prog 48 #[.slice A n c, .func (.func 42) #[] #[]] w fun e w' => e = .returned (.int .i64 (fstIx badW es)) ∧ Below w.heap.size w w' := by
  have eg := enters_of Try.func42 (by kernel_rfl) rfl
  have HR := hid h; have HV := hid hv
  have hl := hid h.len
  clear h hv
  go_enter Try.func48, Try.ntmps48
  go_wp2_with fail
  go_loopw [5, 8] (fun _ i wr => ∃ j : Nat, j ≤ n ∧ i = .int .i64 j ∧ Below w.heap.size w wr ∧ ∀ k, k < j → badW (es[k]?.getD zWe) = false) (fun _ i _ => n - (intOf i).toNat)
  case atStart => exact ⟨0, Nat.zero_le _, rfl, Below.refl _ _, fun k hk => absurd hk (Nat.not_lt_zero _)⟩
  case round =>
    obtain ⟨j, hj, rfl, hbr, hall⟩ := hrel
    have HA := hid hall; have HB := hid hbr
    clear hall hbr
    by_cases hjn : j < n
    · obtain ⟨b, off, rfl, _, hbh, hc⟩ := HR.out.row (by omega)
      have hvj := HV.out.at_ (k := j) (by rw [hl.out]; exact hjn)
      obtain ⟨⟨s, V, vn, vc⟩, hx⟩ : ∃ x, x = es[j]?.getD zWe := ⟨_, rfl⟩
      have hc' := hc j hjn
      rw [← hx] at hc' hvj
      dsimp only at hvj
      have HVJ := hid (hvj.1.step hB HB.out)
      have hvn := hvj.2
      have f0 := (HB.out.cell (p := ⟨b, off + j * 6 + 0, none⟩) hbh).trans (hc' 0 (by omega))
      rw [Nat.add_zero] at f0
      have f1 := (HB.out.cell (p := ⟨b, off + j * 6 + 1, none⟩) hbh).trans (hc' 1 (by omega))
      have f2 := (HB.out.cell (p := ⟨b, off + j * 6 + 2, none⟩) hbh).trans (hc' 2 (by omega))
      have f3 := (HB.out.cell (p := ⟨b, off + j * 6 + 3, none⟩) hbh).trans (hc' 3 (by omega))
      have f4 := (HB.out.cell (p := ⟨b, off + j * 6 + 4, none⟩) hbh).trans (hc' 4 (by omega))
      have f5 := (HB.out.cell (p := ⟨b, off + j * 6 + 5, none⟩) hbh).trans (hc' 5 (by omega))
      simp only [encW] at f0 f1 f2 f3 f4 f5
      have HX := hid hx
      have hji : (j : Int) < (n : Int) := by omega
      clear hx hc hc' hvj
      go_wp2_with fail
      clear f0 f1 f2 f3 f4 f5
      refine (badw_any s V vn vc wr (HVJ.out.sl (by have := HB.out.size; omega)) hvn).mono ?_
      rintro e w1 ⟨rfl, hb⟩
      have HB1 := hid (below_then HB.out hb)
      clear hb
      obtain ⟨q, hq⟩ : ∃ q, q = badW (s, V, vn, vc) := ⟨_, rfl⟩
      rw [← hq]
      have HQ := hid hq
      clear hq
      rcases q with _ | _
      · go_wp2_with fail
        go_roundw
        case rel => exact ⟨j + 1, by omega, by go_num, HB1.out, below_succ HA.out (by rw [← HX.out, ← HQ.out])⟩
        case measure => simp [intOf]; omega
      · have E := hid (show fstIx badW es = j from fstIx_at _ es j (by rw [hl.out]; exact hjn) HA.out (by rw [← HX.out, ← HQ.out]))
        go_wp2
        go_ret
        exact ⟨ret_int E.out.symm, HB1.out⟩
    · obtain rfl : j = n := by omega
      have E := hid (show fstIx badW es = -1 from fstIx_no _ es (fun k hk => HA.out k (by rw [← hl.out]; exact hk)))
      go_wp2
      go_ret
      exact ⟨ret_int E.out.symm, HB.out⟩
set_option maxHeartbeats 2000000 in
theorem ixgoes_any (A : Option Addr) (n c lo B : Nat) (es : List WrE) (w : World) (h : Sm 6 encW zWe w lo w.heap.size A n es) (hv : VRows w B es) (hB : B ≤ w.heap.size) (hn : n ≤ 1000000) :
    Calls Try.prog 48 #[.slice A n c, .func (.func 47) #[] #[]] w fun e w' => e = .returned (.int .i64 (fstIx goesW es)) ∧ Below w.heap.size w w' := by
  have eg := enters_of Try.func47 (by kernel_rfl) rfl
  have HR := hid h; have HV := hid hv
  have hl := hid h.len
  clear h hv
  go_enter Try.func48, Try.ntmps48
  go_wp2_with fail
  go_loopw [5, 8] (fun _ i wr => ∃ j : Nat, j ≤ n ∧ i = .int .i64 j ∧ Below w.heap.size w wr ∧ ∀ k, k < j → goesW (es[k]?.getD zWe) = false) (fun _ i _ => n - (intOf i).toNat)
  case atStart => exact ⟨0, Nat.zero_le _, rfl, Below.refl _ _, fun k hk => absurd hk (Nat.not_lt_zero _)⟩
  case round =>
    obtain ⟨j, hj, rfl, hbr, hall⟩ := hrel
    have HA := hid hall; have HB := hid hbr
    clear hall hbr
    by_cases hjn : j < n
    · obtain ⟨b, off, rfl, _, hbh, hc⟩ := HR.out.row (by omega)
      have hvj := HV.out.at_ (k := j) (by rw [hl.out]; exact hjn)
      obtain ⟨⟨s, V, vn, vc⟩, hx⟩ : ∃ x, x = es[j]?.getD zWe := ⟨_, rfl⟩
      have hc' := hc j hjn
      rw [← hx] at hc' hvj
      dsimp only at hvj
      have HVJ := hid (hvj.1.step hB HB.out)
      have hvn := hvj.2
      have f0 := (HB.out.cell (p := ⟨b, off + j * 6 + 0, none⟩) hbh).trans (hc' 0 (by omega))
      rw [Nat.add_zero] at f0
      have f1 := (HB.out.cell (p := ⟨b, off + j * 6 + 1, none⟩) hbh).trans (hc' 1 (by omega))
      have f2 := (HB.out.cell (p := ⟨b, off + j * 6 + 2, none⟩) hbh).trans (hc' 2 (by omega))
      have f3 := (HB.out.cell (p := ⟨b, off + j * 6 + 3, none⟩) hbh).trans (hc' 3 (by omega))
      have f4 := (HB.out.cell (p := ⟨b, off + j * 6 + 4, none⟩) hbh).trans (hc' 4 (by omega))
      have f5 := (HB.out.cell (p := ⟨b, off + j * 6 + 5, none⟩) hbh).trans (hc' 5 (by omega))
      simp only [encW] at f0 f1 f2 f3 f4 f5
      have HX := hid hx
      have hji : (j : Int) < (n : Int) := by omega
      clear hx hc hc' hvj
      go_wp2_with fail
      clear f0 f1 f2 f3 f4 f5
      refine (goesw_any s V vn vc wr).mono ?_
      rintro e w1 ⟨rfl, hb⟩
      have HB1 := hid (below_then HB.out hb)
      clear hb
      obtain ⟨q, hq⟩ : ∃ q, q = goesW (s, V, vn, vc) := ⟨_, rfl⟩
      rw [← hq]
      have HQ := hid hq
      clear hq
      rcases q with _ | _
      · go_wp2_with fail
        go_roundw
        case rel => exact ⟨j + 1, by omega, by go_num, HB1.out, below_succ HA.out (by rw [← HX.out, ← HQ.out])⟩
        case measure => simp [intOf]; omega
      · have E := hid (show fstIx goesW es = j from fstIx_at _ es j (by rw [hl.out]; exact hjn) HA.out (by rw [← HX.out, ← HQ.out]))
        go_wp2
        go_ret
        exact ⟨ret_int E.out.symm, HB1.out⟩
    · obtain rfl : j = n := by omega
      have E := hid (show fstIx goesW es = -1 from fstIx_no _ es (fun k hk => HA.out k (by rw [← hl.out]; exact hk)))
      go_wp2
      go_ret
      exact ⟨ret_int E.out.symm, HB.out⟩
theorem anybad_any (A : Option Addr) (n c lo B : Nat) (es : List WrE) (w : World) (h : Sm 6 encW zWe w lo w.heap.size A n es) (hv : VRows w B es) (hB : B ≤ w.heap.size) (hn : n ≤ 1000000) :
    Calls Try.prog 44 #[.slice A n c, .func (.func 42) #[] #[]] w fun e w' => e = .returned (.bool (decide (0 ≤ fstIx badW es))) ∧ Below w.heap.size w w' := by
  have HR := hid h; have HV := hid hv
  clear h hv
  go_enter Try.func44, Try.ntmps44
  go_wp2_with fail
  refine (ixbad_any A n c lo B es w HR.out HV.out hB hn).mono ?_
  rintro e w1 ⟨rfl, hb⟩
  have HB := hid hb
  clear hb
  go_wp2
  go_ret
  exact ⟨ret_bool rfl, HB.out⟩
end Go.Proofs.Ytnkaajkdjbdpaaa
