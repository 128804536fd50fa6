/- package spin: own; rows of those who want locks: Clone, ContainsFunc. No condition but sizes. -/
import Derived.Test.YtaeanmkbongfcaaSp5
import Derived.Test.YtaeanmkbongfcaaKitA
namespace Go.Proofs.Ytaeanmkbongfcaa
open Go.RowKit
abbrev ptr (g : Nat) : Value := .pointer (some ⟨g, 0, none⟩)
def encS (x : Spn) : Nat → Value
  | 0 => .int .i64 x.1
  | 1 => .int .i64 x.2.1
  | _ => .int .u64 x.2.2
theorem encS_one (y : Spn) (j : Nat) (_ : j < 3) : (encS y j).oneCell' = true := by
  match j with | 0 => rfl | 1 => rfl | j + 2 => rfl
theorem info_spn : (Try.prog.info? 38).map (fun i => (i.zero, i.size, i.bytes)) = some (some (.agg #[.int .i64 0, .int .i64 0, .int .u64 0]), 3, 24) := by kernel_rfl
/-- the three cells of an element -/
theorem Sm.spn {w : World} {b off n : Nat} {xs : List Spn} (hc : ∀ k, k < n → ∀ j, j < 3 → w.cell? ⟨b, off + k * 3 + j, none⟩ = some (encS (xs[k]?.getD (0, 0, 0)) j)) {k : Nat} (hk : k < n) :
    w.cell? ⟨b, off + k * 3, none⟩ = some (.int .i64 (xs[k]?.getD (0, 0, 0)).1) ∧ w.cell? ⟨b, off + k * 3 + 1, none⟩ = some (.int .i64 (xs[k]?.getD (0, 0, 0)).2.1) ∧ w.cell? ⟨b, off + k * 3 + 2, none⟩ = some (.int .u64 (xs[k]?.getD (0, 0, 0)).2.2) :=
  ⟨by have := hc k hk 0 (by omega); rwa [Nat.add_zero] at this, hc k hk 1 (by omega), hc k hk 2 (by omega)⟩
set_option maxHeartbeats 400000 in
theorem clone_spn (A : Option Addr) (n c lo : Nat) (xs : List _) (w : World) (h : Sm 3 encS (0, 0, 0) w lo w.heap.size A n xs) (hn : n ≤ 1000000) :
    Calls Try.prog 37 #[.slice A n c] w fun e w' => ∃ A' c', e = .returned (.slice A' n c') ∧ Om 3 encS w' w.heap.size 38 A' n c' xs ∧ Below w.heap.size w w' := by
  obtain ⟨i0, hi0, hz00, hz01, hz02⟩ := info_parts info_spn
  have hq := fun W a n c => run_eqnil (P := Try.prog) (t := 26) Try.underlying26 W a n c
  rcases A with _ | ad
  · obtain ⟨rfl, rfl⟩ := h.none_
    go_enter Try.func37, Try.ntmps37
    go_wp2
    go_ret
    exact ⟨none, 0, rfl, Om.nil _ _ _, Below.refl _ _⟩
  · go_enter Try.func37, Try.ntmps37
    go_wp2_with (at_builtin; refine wpList_appm 3 encS (0, 0, 0) _ rfl _ _ 26 rfl w.heap.size 38 i0 _ 24 Try.underlying26 hi0 hz00 hz01 hz02 rfl (by omega) _ _ _ [] rfl (Om.empty w _ _ (Nat.le_refl _)) lo w.heap.size (some ad) n c xs rfl (h.alloc (Nat.le_refl _) _) encS_one (by simp only [maxLen]; omega) (by omega) (by simp) ?_; intro A1 c1 w1 hown1 hg1 hat1; simp only [Nat.zero_add, List.nil_append] at hown1)
    go_ret
    refine ⟨A1, c1, by simp, hown1, ?_⟩
    exact ((Below.refl _ w).alloc (Nat.le_refl _) _).grown hg1 (by simp) (fun k hk => by simp [Value.ownBlock] at hk; omega)

def AllSp (xs : List Spn) : Prop := ∀ s ∈ xs, SpGood s
instance {xs : List Spn} : Decidable (AllSp xs) := by unfold AllSp; infer_instance
theorem AllSp.at {xs : List Spn} (h : AllSp xs) {k : Nat} (hk : k < xs.length) : SpGood (xs[k]?.getD (0, 0, 0)) := by
  rw [List.getElem?_eq_getElem hk]; exact h _ (List.getElem_mem hk)
set_option maxHeartbeats 2000000 in
theorem spown_any (A : Option Addr) (n c : Nat) (B : Option Addr) (m d : Nat) (f : Bool) (ws : List Int) (ls : List Bool) (w : World) (h : Mem w A n c B m d ws ls) :
    Calls Try.prog 41 #[mv A n c B m d f] w (OwnPost w n m f ws ls) := by
  have hm1 := run_make_u64 n (by have := h.hn; omega)
  have hm2 := run_make_bool m (by have := h.hm; omega)
  have hB := below_then (below_box w (.cells (mcs A n c B m d f) 25)) (below_box _ (.cells (mcs none 0 0 none 0 0 false) 25))
  have HR := hid (h.step hB)
  have PR := (Blk.new w 25 (mcs A n c B m d f)).step (below_box _ (.cells (mcs none 0 0 none 0 0 false) 25))
  have PZ := Blk.new2 w 25 (mcs none 0 0 none 0 0 false) (.cells (mcs A n c B m d f) 25)
  have hz : ((w.alloc (.cells (mcs A n c B m d f) 25)).alloc (.cells (mcs none 0 0 none 0 0 false) 25)).heap.size = w.heap.size + 2 := by simp
  obtain ⟨k0, k1, k2, kf⟩ := PR.cells3
  have hn := h.hn; have hm := h.hm
  have HPR := hid PR; have HPZ := hid PZ; have HB := hid hB; have HZ := hid hz; have H0 := hid h
  clear PR PZ hB hz h
  go_enter Try.func41, Try.ntmps41
  go_upto_region 1 with fail
  obtain ⟨W0, hW0⟩ : ∃ W0, W0 = ((w.alloc (.cells #[.slice A n c, .slice B m d, .bool f] 25)).alloc (.cells #[.slice none 0 0, .slice none 0 0, .bool false] 25)) := ⟨_, rfl⟩
  have HW0 := hid hW0; clear hW0
  go_cut [3] (fun s3 wx => ∃ g ga gb : Nat, s3 = .pointer (some ⟨g, 0, none⟩) ∧ MkRel W0 n m f wx g ga gb)
  case first =>
    go_region
    all_goals
      go_wp2_with fail
      go_meet
      rw [HW0.out]
      refine' ⟨_, _, _, rfl, ⟨?box, ?ba, ?bb, ?ne, ?lo, ?below⟩⟩
      case box => (first | exact Blk.drew (Blk.at (by simp <;> omega)) | exact Blk.drew (Blk.alloc (Blk.at (by simp <;> omega)) _) | exact Blk.drew (Blk.alloc (Blk.alloc (Blk.at (by simp <;> omega)) _) _))
      case ba => (first | exact Blk.drew (Blk.at (by simp <;> omega)) | exact Blk.drew (Blk.alloc (Blk.at (by simp <;> omega)) _) | exact Blk.drew (Blk.alloc (Blk.alloc (Blk.at (by simp <;> omega)) _) _))
      case bb => (first | exact Blk.drew (Blk.at (by simp <;> omega)) | exact Blk.drew (Blk.alloc (Blk.at (by simp <;> omega)) _) | exact Blk.drew (Blk.alloc (Blk.alloc (Blk.at (by simp <;> omega)) _) _))
      case ne => exact ⟨by omega, by omega, by omega⟩
      case lo => exact ⟨by simp <;> omega, by simp <;> omega, by simp <;> omega⟩
      case below => (first | exact (((Below.refl _ _).alloc (by simp <;> omega) _).alloc (by simp <;> omega) _).alloc (by simp <;> omega) _ | exact ((((Below.refl _ _).alloc (by simp <;> omega) _).alloc (by simp <;> omega) _).alloc (by simp <;> omega) _).drew)
  case rest =>
    obtain ⟨g, ga, gb, rfl, hr⟩ := hcut
    obtain ⟨d1, d2, d3⟩ := hr.ne
    obtain ⟨l1, l2, l3⟩ := hr.lo
    have hz := HZ.out
    rw [← HW0.out] at hz
    have HPR' := HPR.out; rw [show mcs A n c B m d f = #[.slice A n c, .slice B m d, .bool f] from rfl, ← HW0.out] at HPR'
    have HR' := HR.out; rw [show mcs A n c B m d f = #[.slice A n c, .slice B m d, .bool f] from rfl, show mcs none 0 0 none 0 0 false = #[.slice none 0 0, .slice none 0 0, .bool false] from rfl, ← HW0.out] at HR'
    have HB' := HB.out; rw [show mcs A n c B m d f = #[.slice A n c, .slice B m d, .bool f] from rfl, show mcs none 0 0 none 0 0 false = #[.slice none 0 0, .slice none 0 0, .bool false] from rfl, ← HW0.out] at HB'
    have HPZ' := HPZ.out; rw [show mcs A n c B m d f = #[.slice A n c, .slice B m d, .bool f] from rfl, show mcs none 0 0 none 0 0 false = #[.slice none 0 0, .slice none 0 0, .bool false] from rfl, ← HW0.out] at HPZ'
    clear k0 k1 k2 kf HR HPZ
    have PZ2 := ((HPZ'.step hr.below).farRow (k := ga) (cs' := (ws.map u64v).toArray) (by omega)).farRow (k := gb) (cs' := (ls.map blv).toArray) (by omega)
    obtain ⟨z0, z1, z2, zf⟩ := PZ2.cells3
    have HPZ2 := hid PZ2
    have hzB : w.heap.size ≤ ga ∧ w.heap.size ≤ gb := by omega
    have HzB := hid hzB
    have HD := hid (⟨d1, by omega, by omega⟩ : ga ≠ gb ∧ ga ≠ w.heap.size + 1 ∧ gb ≠ w.heap.size + 1)
    clear PZ2 HPZ' hzB
    have P0 := (HPR'.step hr.below)
    have R0 := HR'.step hr.below
    have P1 := P0.farRow (k := ga) (cs' := (ws.map u64v).toArray) (by omega)
    have X1 := hr.box.farRow (k := ga) (cs' := (ws.map u64v).toArray) (by omega)
    have P2 := P1.farRow (k := gb) (cs' := (ls.map blv).toArray) (by omega)
    have X2 := X1.farRow (k := gb) (cs' := (ls.map blv).toArray) (by omega)
    have BA := (hr.ba.setRow (cs' := (ws.map u64v).toArray)).farRow (k := gb) (cs' := (ls.map blv).toArray) (by omega)
    have BB1 := hr.bb.farRow (k := ga) (cs' := (ws.map u64v).toArray) (by omega)
    have BB := BB1.setRow (cs' := (ls.map blv).toArray)
    have hx := hid (R0.hx)
    have hy := hid (HR'.hy.below hr.below (Nat.le_refl _))
    have hy1 := hid (hy.out.setRow' l2 (ws.map u64v).toArray)
    have HBx := hid (below_setRow (below_setRow (below_then HB' hr.below) (g := ga) (by omega) (ws.map u64v).toArray) (g := gb) (by omega) (ls.map blv).toArray)
    have HBA := hid hr.ba; have HBB1 := hid BB1; have HFA := hid BA; have HFB := hid BB
    have HX2 := hid X2
    obtain ⟨k0, k1, k2, kf⟩ := P0.cells3
    obtain ⟨p0, p1, p2, pf⟩ := P1.cells3
    obtain ⟨s0, s1, s2, sf⟩ := hr.box.cells3
    obtain ⟨t0, t1, t2, tf⟩ := X1.cells3
    obtain ⟨v0, v1, v2, vf⟩ := X2.cells3
    clear P0 P1 P2 X1 X2 BA BB BB1 R0 HR' HB' HPR' hr
    have q1 := fun ty => run_copy_full (P := Try.prog) u64v 0 22 22 ty 36 Try.underlying22 (by kernel_rfl) ga n n c A _ _ HBA.out (by simp [zrow]) _ _ ws hx.out (fun _ => rfl)
    have q2 := fun ty => run_copy_full (P := Try.prog) blv false 23 23 ty 4 Try.underlying23 (by kernel_rfl) gb m m d B _ _ HBB1.out (by simp [zrow]) _ _ ls hy1.out (fun _ => rfl)
    go_wp2
    have q := ((HPZ2.out.setCell 0 (.slice (some ⟨ga, 0, none⟩) n n)).setCell 1 (.slice (some ⟨gb, 0, none⟩) m m)).setCell 2 (.bool f)
    obtain ⟨q0, q1, q2, qf⟩ := q.cells3
    obtain ⟨e1, e2, e3⟩ := HD.out
    obtain ⟨l4, l5⟩ := HzB.out
    have hle := H0.out.lenx; have hle' := H0.out.leny
    refine bodyPost_ret (v := mv (some ⟨ga, 0, none⟩) n n (some ⟨gb, 0, none⟩) m m f) (by simp [results, Try.results41, go_sem, q0, q1, q2]) rfl ⟨ga, gb, rfl, ⟨?_, ?_, fun a b h1 h2 => by simp at h1 h2; subst h1 h2; exact e1, hn, hm⟩, ?_⟩
    · exact Blk.ow (((HFA.out.far (by simp; omega) _).far (by simp; omega) _).far (by simp; omega) _) rfl hle l4 (by simp [maxLen]; omega)
    · exact Blk.ow (((HFB.out.far (by simp; omega) _).far (by simp; omega) _).far (by simp; omega) _) rfl hle' l5 (by simp [maxLen]; omega)
    · exact (((HBx.out.setCell (by simp) _).setCell (by simp) _).setCell (by simp) _)

theorem badsp_any (a p t : Int) (w : World) : Calls Try.prog 40 #[sv a p t] w fun e w' => e = .returned (.bool (decide (¬ SpGood (a, p, t)))) ∧ Below w.heap.size w w' := by
  have HB := hid (Below.refl w.heap.size w)
  have bx := below_box w (.cells (scs a p t) 38)
  replace HB := hid (below_then HB.out bx)
  clear bx
  have PS := hid (Blk.new w 38 (scs a p t))
  obtain ⟨y00, y01, y02, yf0⟩ := PS.out.cells3
  go_enter Try.func40, Try.ntmps40
  go_wp2_with fail
  clear y00 y01 y02 yf0
  refine (spcheck_any a p t _).mono ?_
  rintro e w1 ⟨rfl, hb⟩
  replace PS := hid (PS.out.step hb); replace HB := hid (below_then HB.out hb)
  clear hb
  by_cases hg : SpGood (a, p, t)
  · rw [show spCheckC (a, p, t) = 0 from if_pos hg]
    have E := hid (show decide (¬ SpGood (a, p, t)) = false from decide_eq_false (not_not_intro hg))
    clear hg
    go_wp2
    go_ret
    exact ⟨ret_bool E.out.symm, HB.out⟩
  · rw [show spCheckC (a, p, t) = 150 from if_neg hg]
    have E := hid (show decide (¬ SpGood (a, p, t)) = true from decide_eq_true hg)
    clear hg
    go_wp2
    go_ret
    exact ⟨ret_bool E.out.symm, HB.out⟩
def IxPost (xs : List Spn) (w : World) (e : Ending) (w' : World) : Prop := (∃ v, e = .returned (.int .i64 v) ∧ decide (0 ≤ v) = !decide (AllSp xs)) ∧ Below w.heap.size w w'
set_option maxHeartbeats 1000000 in
theorem ixsp_any (A : Option Addr) (n c lo : Nat) (xs : List Spn) (w : World) (h : Sm 3 encS (0, 0, 0) w lo w.heap.size A n xs) (hn : n ≤ 1000000) :
    Calls Try.prog 55 #[.slice A n c, .func (.func 40) #[] #[]] w (IxPost xs w) := by
  have eg := enters_of Try.func40 (by kernel_rfl) rfl
  have HR := hid h
  have hl := hid h.len
  clear h
  go_enter Try.func55, Try.ntmps55
  go_wp2_with fail
  go_loopw [5, 8] (fun _ i wr => ∃ j : Nat, j ≤ n ∧ i = .int .i64 j ∧ Below w.heap.size w wr ∧ ∀ k, k < j → SpGood (xs[k]?.getD (0, 0, 0))) (fun _ i _ => n - (intOf i).toNat)
  case atStart => exact ⟨0, Nat.zero_le _, rfl, Below.refl _ _, fun k hk => absurd hk (Nat.not_lt_zero _)⟩
  case round =>
    obtain ⟨j, hj, rfl, hbr, hall⟩ := hrel
    have HA := hid hall; have HB := hid hbr
    clear hall hbr
    by_cases hjn : j < n
    · obtain ⟨b, off, rfl, _, hbh, hc⟩ := HR.out.row (by omega)
      obtain ⟨c0, c1, c2⟩ := Sm.spn hc hjn
      have f0 := (HB.out.cell (p := ⟨b, off + j * 3, none⟩) hbh).trans c0
      have f1 := (HB.out.cell (p := ⟨b, off + j * 3 + 1, none⟩) hbh).trans c1
      have f2 := (HB.out.cell (p := ⟨b, off + j * 3 + 2, none⟩) hbh).trans c2
      obtain ⟨⟨x0, x1, x2⟩, hx⟩ : ∃ x, x = xs[j]?.getD (0, 0, 0) := ⟨_, rfl⟩
      rw [← hx] at f0 f1 f2
      have HX := hid hx
      clear hx hc c0 c1 c2
      go_wp2_with fail
      clear f0 f1 f2
      refine (badsp_any x0 x1 x2 wr).mono ?_
      rintro e w1 ⟨rfl, hb⟩
      have HB1 := hid (below_then HB.out hb)
      clear hb
      by_cases hg : SpGood (x0, x1, x2)
      · have e1 : decide (¬ SpGood (x0, x1, x2)) = false := decide_eq_false (not_not_intro hg)
        rw [e1]
        have HG := hid hg
        clear e1 hg
        go_wp2_with fail
        go_roundw
        case rel => exact ⟨j + 1, by omega, by go_num, HB1.out, below_succ HA.out (by rw [← HX.out]; exact HG.out)⟩
        case measure => simp [intOf]; omega
      · have e1 : decide (¬ SpGood (x0, x1, x2)) = true := decide_eq_true hg
        rw [e1]
        have E := hid (show decide (AllSp xs) = false from decide_eq_false (fun h => hg (by have := h.at (k := j) (by rw [hl.out]; omega); rwa [← HX.out] at this)))
        clear e1 hg
        go_wp2
        go_ret
        exact ⟨⟨_, rfl, by rw [E.out]; simp⟩, HB1.out⟩
    · obtain rfl : j = n := by omega
      have E := hid (show decide (AllSp xs) = true from decide_eq_true (fun s hs => by
        obtain ⟨k, hk, rfl⟩ := List.mem_iff_getElem.1 hs
        have := HA.out k (by rw [← hl.out]; exact hk)
        rwa [List.getElem?_eq_getElem hk] at this))
      go_wp2
      go_ret
      exact ⟨⟨_, rfl, by rw [E.out]; simp⟩, HB.out⟩
theorem anysp_any (A : Option Addr) (n c lo : Nat) (xs : List Spn) (w : World) (h : Sm 3 encS (0, 0, 0) w lo w.heap.size A n xs) (hn : n ≤ 1000000) :
    Calls Try.prog 39 #[.slice A n c, .func (.func 40) #[] #[]] w fun e w' => e = .returned (.bool (!decide (AllSp xs))) ∧ Below w.heap.size w w' := by
  have HR := hid h
  clear h
  go_enter Try.func39, Try.ntmps39
  go_wp2_with fail
  refine (ixsp_any A n c lo xs w HR.out hn).mono ?_
  rintro e w1 ⟨⟨v, rfl, hv⟩, hb⟩
  have HV := hid hv; have HB := hid hb
  clear hv hb
  go_wp2
  go_ret
  exact ⟨ret_bool (by rw [← HV.out]), HB.out⟩
end Go.Proofs.Ytaeanmkbongfcaa
