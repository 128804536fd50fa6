/- afterglowlaw06.SeqWhole returns true at every rows, picks, and number of words, and turns nothing old. No condition but the sizes of memory. -/
import Derived.Test.YtnkaajkdjbdpaaaSqW
namespace Go.Proofs.Ytnkaajkdjbdpaaa
open Go.RowKit
/-- behind j rows; gm, gr: the boxes of the memory and of the read -/
structure QWh (w W : World) (gm gr : Nat) (N : Nat) (rs : List Trp) (A : Option Addr) (c : Nat) (B : Option Addr) (d : Nat) (L : Option Addr) (cl : Nat) (H : Option Addr) (ch : Nat) (j : Nat) : Prop where
  out : ∃ (es : List WrE) (hs : List VlE), Om 6 encW W w.heap.size 34 L j cl es ∧ Ow encV W w.heap.size 24 H (j + 1) ch hs ∧ OwAll W w.heap.size (es.map fun x => (x.1.vs, x.2)) ∧ OwAll W w.heap.size hs ∧
    (∀ i, i < j → (es.map Prod.fst)[i]? = some ⟨9, 2, sqV N rs (i + 1), 0, 0, 0⟩) ∧ (∀ i, i ≤ j → ∃ x ∈ hs, x.1 = sqV N rs i) ∧ (∀ x ∈ hs, x.2.2.1 = N) ∧ (∀ x ∈ es, x.2.2.1 = N)
  pm : Blk W gm 44 (mcs A 12 c B 12 d false)
  om : Mown W w.heap.size A 12 c B 12 d (List.replicate 12 0) (List.replicate 12 true)
  pr : Blk W gr 29 (rdc 9 2 N 0 0 none 0 0 0)
  be : Below w.heap.size w W
/-- behind the play -/
structure QWe (w W : World) (g7 g8 : Nat) (m : MSt) (s : Srd) (N j : Nat) (L : Option Addr) (cl : Nat) (H : Option Addr) (ch : Nat) (hs : List VlE) : Prop where
  out : ∃ A n c B k d V vn vc, Blk W g7 44 (mcs A n c B k d m.2.2) ∧ Blk W g8 29 (rdc s.a s.f s.m s.ph s.bg V vn vc s.tr) ∧ Ow u64v W w.heap.size 27 V vn vc s.vs
  oh : Ow encV W w.heap.size 24 H (j + 1) ch hs
  ob : OwAll W w.heap.size hs
  be : Below w.heap.size w W
theorem QWh.step {w W W' : World} {gm gr N : Nat} {rs : List Trp} {A : Option Addr} {c : Nat} {B : Option Addr} {d : Nat} {L : Option Addr} {cl : Nat} {H : Option Addr} {ch j : Nat} (h : QWh w W gm gr N rs A c B d L cl H ch j) (hb : Below W.heap.size W W') : QWh w W' gm gr N rs A c B d L cl H ch j := by
  obtain ⟨⟨es, hs, h1, h2, h3, h4, h5⟩, h6, h7, h8, h9⟩ := h
  exact ⟨⟨es, hs, h1.step hb, h2.step hb, h3.step hb, h4.step hb, h5⟩, h6.step hb, h7.step hb, h8.step hb, below_then h9 hb⟩
section
variable {W W' : World} {lo lo2 : Nat} {A : Option Addr} {n c : Nat} {B : Option Addr} {m d : Nat} {ws : List Int} {ls : List Bool} {e : TypeId} {L : Option Addr} {k cl : Nat}
theorem mown_keptM {α : Type} {sz : Nat} {enc : α → Nat → Value} {xs : List α} (h : Mown W lo A n c B m d ws ls) (ho : Om sz enc W lo2 e L k cl xs) (h1 : 27 ≠ e) (h2 : 4 ≠ e) (hg : W.grownBy W' (Value.slice L k cl).ownBlock) : Mown W' lo A n c B m d ws ls :=
  ⟨h.oa.keptM ho h1 hg, h.ob.keptM ho h2 hg, h.apart, h.hn, h.hm⟩
theorem mown_keptO {α : Type} {enc : α → Value} {xs : List α} (h : Mown W lo A n c B m d ws ls) (ho : Ow enc W lo2 e L k cl xs) (h1 : 27 ≠ e) (h2 : 4 ≠ e) (hg : W.grownBy W' (Value.slice L k cl).ownBlock) : Mown W' lo A n c B m d ws ls :=
  ⟨h.oa.keptO ho h1 hg, h.ob.keptO ho h2 hg, h.apart, h.hn, h.hm⟩
end
/-- an array of three words, cut -/
theorem cut_trip (N : Nat) (hN : N ≤ 3) (g : Nat) (W : World) : (Instr.sliceAt 66 (.pointer (some ⟨g, 0, none⟩)) none (some (.int .i64 N)) none).run Try.prog W = .ok (.slice (some ⟨g, 0, none⟩) N 3) W := by
  have hl : Try.prog.arrayLen 66 = 3 := by kernel_rfl
  rw [run_sliceAt_array_h W 66 ⟨g, 0, none⟩ (by kernel_rfl) .i64 N (by omega) (by rw [hl]; omega), hl]
  have hs : (sizeOf (Try.prog.elem 66)).run Try.prog W = .ok 1 W := by kernel_rfl
  rw [hs]
  simp [Result.andThen, slicedAt, Addr.add]
/-- one element in a block -/
theorem Blk.sm1 {α : Type} {sz : Nat} {enc : α → Nat → Value} {d : α} {w : World} {g : Nat} {e : TypeId} {cs : Array Value} (h : Blk w g e cs) (x : α) (hc : ∀ j, j < sz → cs[j]? = some (enc x j)) : Sm sz enc d w 0 w.heap.size (some ⟨g, 0, none⟩) 1 [x] := by
  refine ⟨rfl, fun _ => ⟨g, 0, rfl, Nat.zero_le _, h.lt, fun k hk j hj => ?_⟩⟩
  obtain rfl : k = 0 := by omega
  rw [show 0 + 0 * sz + j = j by omega, h.cell, hc j hj]
  rfl
theorem Blk.sl1 {α : Type} {enc : α → Value} {d : α} {w : World} {g : Nat} {e : TypeId} {x : α} (h : Blk w g e #[enc x]) : Sl enc d w 0 w.heap.size (some ⟨g, 0, none⟩) 1 [x] := by
  refine ⟨rfl, fun _ => ⟨g, 0, rfl, Nat.zero_le _, h.lt, fun k hk => ?_⟩⟩
  obtain rfl : k = 0 := by omega
  rw [h.cell]
  rfl
set_option maxRecDepth 100000 in
set_option maxHeartbeats 8000000 in
theorem sqwhole_any (R : Option Addr) (nr cr : Nat) (rs : List Trp) (Q : Option Addr) (nq cq : Nat) (ps : List Bool) (many : Int) (w : World) (hr : Sm 3 encT (0, 0, 0) w 0 w.heap.size R nr rs) (hro : ∀ y ∈ rs, TrpOk y) (hq : Sl blv false w 0 w.heap.size Q nq ps) (hqc : nq ≤ cq) :
    Calls Try.prog 5 #[.slice R nr cr, .slice Q nq cq, .int .i64 many] w fun e w' => e = .returned (.bool true) ∧ Below w.heap.size w w' := by
  have HR := hid hr; have HQ := hid hq; have HRO := hid hro; have HB := hid (Below.refl w.heap.size w)
  obtain ⟨N, hN, hN1, hN3⟩ : ∃ N : Nat, wrap64 (1 + wrap64 ((IntKind.u64.wrap many).tmod 3)) = (N : Int) ∧ 1 ≤ N ∧ N ≤ 3 := by
    have h0 : 0 ≤ IntKind.u64.wrap many := by rw [IntKind.wrap_u64]; omega
    refine ⟨1 + ((IntKind.u64.wrap many).tmod 3).toNat, ?_, by omega, ?_⟩
    · rw [Int.tmod_eq_emod_of_nonneg h0]; unfold wrap64; omega
    · rw [Int.tmod_eq_emod_of_nonneg h0]; omega
  clear hr hq hro
  go_enter Try.func5, Try.ntmps5
  go_wp2_with fail
  refine (sqwakes_any w).mono ?_
  rintro e w1 ⟨rfl, hb⟩
  replace HB := hid (below_then HB.out hb)
  clear hb
  have hs1 := hid HB.out.size
  go_wp2_with fail
  refine (live_any 12 w1 (by decide) (by decide) (by decide +kernel)).mono ?_
  rintro e w2 ⟨A, c, B, d, rfl, om, hb⟩
  have OM := hid (om.mono (show w.heap.size ≤ w1.heap.size from hs1.out))
  have hs2 := hid (Nat.le_trans hs1.out hb.size)
  clear om hs1
  replace HB := hid (below_then HB.out hb)
  clear hb
  have bx := below_box w2 (.cells (mcs A 12 c B 12 d false) 44)
  replace OM := hid (OM.out.step bx); replace HB := hid (below_then HB.out bx)
  clear bx
  have PM := hid (Blk.new w2 44 (mcs A 12 c B 12 d false))
  go_upto_region 4 with fail
  have hz2 := hid (show (w2.alloc (.cells (mcs A 12 c B 12 d false) 44)).heap.size = w2.heap.size + 1 by simp)
  generalize w2.alloc (.cells (mcs A 12 c B 12 d false) 44) = W2 at *
  go_upto_region 5 with fail
  simp only [hN]
  clear hN
  go_wp2_with fail
  refine (sread_any 9 2 N _).mono ?_
  rw [decide_eq_true ⟨by omega, by unfold SqG; omega⟩]
  rintro e w3 ⟨rfl, hb⟩
  dsimp only [if_true]
  have hs3 := hid (show w2.heap.size + 1 ≤ w3.heap.size by have := hb.size; have := hz2.out; omega)
  replace OM := hid (OM.out.step hb); replace PM := hid (PM.out.step hb); replace HB := hid (below_then HB.out hb)
  clear hb
  have bx := below_box w3 (.cells (rdc 9 2 N 0 0 none 0 0 0) 29)
  replace OM := hid (OM.out.step bx); replace PM := hid (PM.out.step bx); replace HB := hid (below_then HB.out bx)
  clear bx
  have PR := hid (Blk.new w3 29 (rdc 9 2 N 0 0 none 0 0 0))
  go_upto_region 6 with fail
  have hz3 := hid (show (w3.alloc (.cells (rdc 9 2 N 0 0 none 0 0 0) 29)).heap.size = w3.heap.size + 1 by simp)
  generalize w3.alloc (.cells (rdc 9 2 N 0 0 none 0 0 0) 29) = W3 at *
  have hmk := run_make_u64 N (by omega)
  go_upto_block 0 with fail
  clear hmk
  have OZ := hid (Ow.made (enc := u64v) (w := W3) (lo := w.heap.size) (g := W3.heap.size) (e := 27) (n := N) 0 HB.out.size (by simp [maxLen]; omega) rfl)
  have bx := below_box W3 (.cells (zrow (.int .u64 0) N) 27)
  replace OM := hid (OM.out.step bx); replace PM := hid (PM.out.step bx); replace PR := hid (PR.out.step bx); replace HB := hid (below_then HB.out bx)
  clear bx
  have hz4 := hid (show (W3.alloc (.cells (zrow (.int .u64 0) N) 27)).heap.size = W3.heap.size + 1 by simp)
  generalize W3.alloc (.cells (zrow (.int .u64 0) N) 27) = W4 at *
  have hlo := hid HB.out.size
  have bx := below_box W4 (.cells #[.slice (some ⟨W3.heap.size, 0, none⟩) N N] 24)
  have OH := hid (show Ow encV (W4.alloc (.cells #[.slice (some ⟨W3.heap.size, 0, none⟩) N N] 24)) w.heap.size 24 (some ⟨W3.heap.size + 1, 0, none⟩) 1 1 [((List.replicate N 0, some ⟨W3.heap.size, 0, none⟩, N, N) : VlE)] from Blk.ow (Blk.at hz4.out.symm) rfl rfl (hz4.out ▸ hlo.out) (by simp [maxLen]))
  replace OM := hid (OM.out.step bx); replace PM := hid (PM.out.step bx); replace PR := hid (PR.out.step bx); replace OZ := hid (OZ.out.step bx); replace HB := hid (below_then HB.out bx)
  clear bx
  generalize W4.alloc (.cells #[.slice (some ⟨W3.heap.size, 0, none⟩) N N] 24) = W5 at *
  have hst : QWh w W5 w2.heap.size w3.heap.size N rs A c B d none 0 (some ⟨W3.heap.size + 1, 0, none⟩) 1 0 := ⟨⟨[], [(List.replicate N 0, some ⟨W3.heap.size, 0, none⟩, N, N)], Om.nil _ _ _, OH.out, (fun x hx => by simp at hx), (fun x hx => by rw [List.mem_singleton] at hx; subst hx; exact OZ.out), (fun i hi => by omega), (fun i hi => ⟨_, List.mem_singleton.2 rfl, by rw [Nat.le_zero.1 hi]; rfl⟩), (fun x hx => by rw [List.mem_singleton] at hx; subst hx; rfl), (fun x hx => by simp at hx)⟩, PM.out, OM.out, PR.out, HB.out⟩
  have HST := hid hst
  have HBW := hid (show w2.heap.size + 1 ≤ w3.heap.size ∧ w.heap.size ≤ w2.heap.size from ⟨hs3.out, hs2.out⟩)
  clear hst PM OM PR OH OZ HB
  go_cut [11, 12] (fun l h wx => ∃ (j : Nat) (L : Option Addr) (cl : Nat) (H : Option Addr) (ch : Nat), j ≤ 4 ∧ l = .slice L j cl ∧ h = .slice H (j + 1) ch ∧ QWh w wx w2.heap.size w3.heap.size N rs A c B d L cl H ch j)
  case first =>
    go_wp2_with fail
    go_loopw [11, 12, 46] (fun l h i wr => ∃ (j : Nat) (L : Option Addr) (cl : Nat) (H : Option Addr) (ch : Nat), j ≤ nr ∧ j ≤ 4 ∧ i = .int .i64 j ∧ l = .slice L j cl ∧ h = .slice H (j + 1) ch ∧ QWh w wr w2.heap.size w3.heap.size N rs A c B d L cl H ch j) (fun _ _ i _ => nr - (intOf i).toNat)
    case atStart => exact ⟨0, _, _, _, _, Nat.zero_le _, by omega, rfl, rfl, rfl, HST.out⟩
    case round =>
      obtain ⟨j, L, cl, H, ch, hj, hj4, rfl, rfl, rfl, hI⟩ := hrel
      clear HST
      have HI := hid hI
      clear hI
      by_cases hjn : j < nr
      rotate_left
      · obtain rfl : j = nr := by omega
        have hnn : ¬ ((j : Int) < (j : Int)) := by omega
        go_wp2
        go_meet
        exact ⟨j, L, cl, H, ch, hj4, rfl, rfl, HI.out⟩
      have hji : (j : Int) < (nr : Int) := by omega
      obtain ⟨b, off, rfl, _, hbh, hc⟩ := HR.out.row (by omega)
      obtain ⟨⟨x0, x1, x2⟩, hx⟩ : ∃ x, x = rs[j]?.getD (0, 0, 0) := ⟨_, rfl⟩
      have hc' := hc j hjn
      rw [← hx] at hc'
      have HX := hid hx
      have f0 := (HI.out.be.cell (p := ⟨b, off + j * 3 + 0, none⟩) hbh).trans (hc' 0 (by omega))
      rw [Nat.add_zero] at f0
      have f1 := (HI.out.be.cell (p := ⟨b, off + j * 3 + 1, none⟩) hbh).trans (hc' 1 (by omega))
      have f2 := (HI.out.be.cell (p := ⟨b, off + j * 3 + 2, none⟩) hbh).trans (hc' 2 (by omega))
      simp only [encT] at f0 f1 f2
      clear hc hc' hx
      by_cases hj2 : j = 4
      · have hjb : ((j : Int) == 4) = true := by simp; omega
        subst hj2
        simp only [show ((4 : Nat) : Int) = 4 from rfl] at *
        have h4n : (4 : Int) < (nr : Int) := by omega
        go_wp2
        go_meet
        exact ⟨4, L, cl, H, ch, Nat.le_refl _, rfl, rfl, HI.out.step (below_box _ _)⟩
      have hjb : ((j : Int) == 4) = false := by simp; omega
      obtain ⟨⟨es, hs, h1, h2, h3, h4, h5, h6, h7, h12⟩, h8, h9, h10, h11⟩ := HI.out
      have HE8 := hid h12
      clear h12
      have OL := hid h1; have OH := hid h2; have OA := hid h3; have OB := hid h4; have HE5 := hid h5; have HE6 := hid h6; have HE7 := hid h7; have PM := hid h8; have OM := hid h9; have PR := hid h10; have HB := hid h11
      clear h1 h2 h3 h4 h5 h6 h7 h8 h9 h10 h11 HI
      have hs5 := hid HB.out.size
      have bx := below_box wr (.cells #[.int .u64 x0, .int .u64 x1, .int .u64 x2] 66)
      replace OL := hid (OL.out.step bx); replace OH := hid (OH.out.step bx); replace OA := hid (OA.out.step bx); replace OB := hid (OB.out.step bx); replace PM := hid (PM.out.step bx); replace OM := hid (OM.out.step bx); replace PR := hid (PR.out.step bx); replace HB := hid (below_then HB.out bx)
      clear bx
      have PX := hid (Blk.new wr 66 #[.int .u64 x0, .int .u64 x1, .int .u64 x2])
      go_upto_region 14 with fail
      clear f0 f1 f2
      have hz6 := hid (show (wr.alloc (.cells #[.int .u64 x0, .int .u64 x1, .int .u64 x2] 66)).heap.size = wr.heap.size + 1 by simp)
      generalize wr.alloc (.cells #[.int .u64 x0, .int .u64 x1, .int .u64 x2] 66) = W6 at *
      have hcut := cut_trip N hN3
      go_wp2_with fail
      clear hcut
      refine (swrite_any 9 2 (some ⟨wr.heap.size, 0, none⟩) N 3 ([x0, x1, x2].take N) W6 (PX.out.cut3 hN3) (by omega)).mono ?_
      rw [decide_eq_true ⟨by omega, by unfold SqG; omega⟩]
      rintro e w7 ⟨V7, c7, rfl, ov, hb⟩
      dsimp only [if_true]
      have OV := hid ((ov rfl).mono (show w.heap.size ≤ W6.heap.size from HB.out.size))
      have hs7 := hid (show wr.heap.size + 1 ≤ w7.heap.size by have := hb.size; have := hz6.out; omega)
      replace OL := hid (OL.out.step hb); replace OH := hid (OH.out.step hb); replace OA := hid (OA.out.step hb); replace OB := hid (OB.out.step hb); replace PM := hid (PM.out.step hb); replace OM := hid (OM.out.step hb); replace PR := hid (PR.out.step hb); replace PX := hid (PX.out.step hb); replace HB := hid (below_then HB.out hb)
      clear hb ov
      have bx := below_box w7 (.cells (wrc 9 2 V7 N c7 0 0 0) 34)
      replace OL := hid (OL.out.step bx); replace OH := hid (OH.out.step bx); replace OA := hid (OA.out.step bx); replace OB := hid (OB.out.step bx); replace PM := hid (PM.out.step bx); replace OM := hid (OM.out.step bx); replace PR := hid (PR.out.step bx); replace PX := hid (PX.out.step bx); replace OV := hid (OV.out.step bx); replace HB := hid (below_then HB.out bx)
      clear bx
      have PW := hid (Blk.new w7 34 (wrc 9 2 V7 N c7 0 0 0))
      go_upto_region 17 with fail
      have hz8 := hid (show (w7.alloc (.cells (wrc 9 2 V7 N c7 0 0 0) 34)).heap.size = w7.heap.size + 1 by simp)
      generalize w7.alloc (.cells (wrc 9 2 V7 N c7 0 0 0) 34) = W8 at *
      obtain ⟨i0, hi0, hz00, hz01, hz02⟩ := info_parts info_wr
      obtain ⟨i1, hi1, hz10, hz11, hz12⟩ := info_parts info_vls
      have hw1 : IntKind.i64.wrap ((j : Int) + 1) = (j : Int) + 1 := by rw [IntKind.wrap_i64]; omega
      have hcut := cut_trip N hN3
      have bx := (Below.refl W8.heap.size W8).drew
      replace OL := hid (OL.out.step bx); replace OH := hid (OH.out.step bx); replace OA := hid (OA.out.step bx); replace OB := hid (OB.out.step bx); replace PM := hid (PM.out.step bx); replace OM := hid (OM.out.step bx); replace PR := hid (PR.out.step bx); replace PX := hid (PX.out.step bx); replace OV := hid (OV.out.step bx); replace PW := hid (PW.out.step bx); replace HB := hid (below_then HB.out bx)
      clear bx
      have hszd := hid (show W8.drew.heap.size = W8.heap.size from rfl)
      refine wp_region_noPanic ?_
      refine wp_region_held_drew (S := (fun W' : World => True)) (by kernel_rfl) trivial (fun hS => ?_)
      generalize W8.drew = Wd at *
      refine wpAnyH_take (i := 0) (v := ?_) (by simp only [List.getElem?_toArray, List.getElem?_cons_succ, List.getElem?_cons_zero]; rfl) (by kernel_rfl) (by kernel_rfl) (by kernel_rfl) (fun _ _ _ h => h) (Or.inl ⟨by rfl, ?_⟩) hS ?_
      rotate_left
      · intro w' hSw; (try dsimp only at hSw); go_split_ands; go_simp; (try with_reducible rfl)
      (try simp only [Act.put, List.setIfInBounds_toArray, List.set_cons_zero, List.set_cons_succ])
      refine wpAnyH_take (i := 4) (v := ?_) (by simp only [List.getElem?_toArray, List.getElem?_cons_succ, List.getElem?_cons_zero]; rfl) (by kernel_rfl) (by kernel_rfl) (by kernel_rfl) (fun _ _ _ h => h) (Or.inl ⟨by rfl, ?_⟩) hS ?_
      rotate_left
      · intro w' hSw; (try dsimp only at hSw); go_split_ands; go_simp; (try with_reducible rfl)
      (try simp only [Act.put, List.setIfInBounds_toArray, List.set_cons_zero, List.set_cons_succ])
      refine wpAnyH_take (i := 5) (v := ?_) (by simp only [List.getElem?_toArray, List.getElem?_cons_succ, List.getElem?_cons_zero]; rfl) (by kernel_rfl) (by kernel_rfl) (by kernel_rfl) (fun _ _ _ h => h) (Or.inl ⟨by rfl, ?_⟩) hS ?_
      rotate_left
      · intro w' hSw; (try dsimp only at hSw); go_split_ands; go_simp; (try with_reducible rfl)
      (try simp only [Act.put, List.setIfInBounds_toArray, List.set_cons_zero, List.set_cons_succ])
      refine wpAnyH_take (i := 6) (v := ?_) (by simp only [List.getElem?_toArray, List.getElem?_cons_succ, List.getElem?_cons_zero]; rfl) (by kernel_rfl) (by kernel_rfl) (by kernel_rfl) (fun _ _ _ h => h) (Or.inl ⟨by rfl, ?_⟩) hS ?_
      rotate_left
      · intro w' hSw; (try dsimp only at hSw); go_split_ands; go_simp; (try with_reducible rfl)
      (try simp only [Act.put, List.setIfInBounds_toArray, List.set_cons_zero, List.set_cons_succ])
      refine wpAnyH_ready (rs := [1]) (by kernel_rfl) (by simp) ?_
      refine AllReadyH.cons (by simp only [List.getElem?_toArray, List.getElem?_cons_succ, List.getElem?_cons_zero]; rfl) (fun K hK => ?_) ?_
      · skip
        obtain ⟨y00, y01, y02, y03, y04, y05, yf0⟩ := PW.out.cells6
        go_simp
        clear y00 y01 y02 y03 y04 y05 yf0 PW
        have hS' : (fun W' : World => True) Wd := trivial
        refine hK.out _ _ hS' (fun _ => ?_)
        clear hK K hS
        have hS := hS'
        clear hS'
        (try simp only [Act.put, List.setIfInBounds_toArray, List.set_cons_zero, List.set_cons_succ])
        refine wpAnyH_ready (rs := [2]) (by kernel_rfl) (by simp) ?_
        refine AllReadyH.cons (by simp only [List.getElem?_toArray, List.getElem?_cons_succ, List.getElem?_cons_zero]; rfl) (fun K hK => ?_) ?_
        · skip
          go_simp
          refine named_alloc ?_
          intro Wa2 hbk hb hsz
          have hsz1 := hid hsz
          replace OL := hid (OL.out.step hb); replace OH := hid (OH.out.step hb); replace OA := hid (OA.out.step hb); replace OB := hid (OB.out.step hb); replace PM := hid (PM.out.step hb); replace OM := hid (OM.out.step hb); replace PR := hid (PR.out.step hb); replace PX := hid (PX.out.step hb); replace OV := hid (OV.out.step hb); replace HB := hid (below_then HB.out hb)
          have P2 := hid hbk
          clear hb hbk hsz
          have hS' : (fun W' : World => True) Wa2 := trivial
          refine hK.out _ _ hS' (fun _ => ?_)
          clear hK K hS
          have hS := hS'
          clear hS'
          (try simp only [Act.put, List.setIfInBounds_toArray, List.set_cons_zero, List.set_cons_succ])
          refine wpAnyH_ready (rs := [3]) (by kernel_rfl) (by simp) ?_
          refine AllReadyH.cons (by simp only [List.getElem?_toArray, List.getElem?_cons_succ, List.getElem?_cons_zero]; rfl) (fun K hK => ?_) ?_
          · skip
            refine step_appm 6 encW zWe _ rfl _ _ 45 rfl w.heap.size 34 i0 _ 64 Try.underlying45 hi0 hz00 hz01 hz02 rfl (by omega) L j cl es rfl OL.out 0 _ _ 1 _ [((⟨9, 2, [x0, x1, x2].take N, 0, 0, 0⟩ : Swr), V7, N, c7)] rfl (P2.out.sm1 _ (by intro j hj; match j, hj with | 0, _ => rfl | 1, _ => rfl | 2, _ => rfl | 3, _ => rfl | 4, _ => rfl | 5, _ => rfl)) encW_one (by simp only [maxLen]; omega) (by omega) HB.out.size ?_
            intro L3 cl3 Wc3 hown hgr hat
            have hszA := hid hgr.size
            replace PM := hid (PM.out.keptM OL.out (by decide) hgr); replace PR := hid (PR.out.keptM OL.out (by decide) hgr); replace PX := hid (PX.out.keptM OL.out (by decide) hgr)
            replace OM := hid (mown_keptM OM.out OL.out (by decide) (by decide) hgr); replace OV := hid (OV.out.keptM OL.out (by decide) hgr); replace OH := hid (OH.out.keptM OL.out (by decide) hgr)
            replace OA := hid (OA.out.keptM OL.out (by decide) hgr); replace OB := hid (OB.out.keptM OL.out (by decide) hgr)
            replace HB := hid (HB.out.grown hgr HB.out.size (fun k hk => OL.out.row_ge k hk))
            replace OL := hid hown
            clear hown hgr hat P2
            have hS' : (fun W' : World => True) Wc3 := trivial
            refine hK.out _ _ hS' (fun _ => ?_)
            clear hK K hS
            have hS := hS'
            clear hS'
            (try simp only [Act.put, List.setIfInBounds_toArray, List.set_cons_zero, List.set_cons_succ])
            refine wpAnyH_ready (rs := [7]) (by kernel_rfl) (by simp) ?_
            refine AllReadyH.cons (by simp only [List.getElem?_toArray, List.getElem?_cons_succ, List.getElem?_cons_zero]; rfl) (fun K hK => ?_) ?_
            · skip
              go_simp
              refine (clone_u64 (some ⟨wr.heap.size, 0, none⟩) N 3 0 ([x0, x1, x2].take N) _ (PX.out.cut3 hN3) (by omega)).mono ?_
              rintro e ws7 ⟨V9, c9, rfl, ov, hb⟩
              have hsz3 := hid (show Wc3.heap.size ≤ ws7.heap.size from hb.size)
              replace OL := hid (OL.out.step hb); replace OH := hid (OH.out.step hb); replace OA := hid (OA.out.step hb); replace OB := hid (OB.out.step hb); replace PM := hid (PM.out.step hb); replace OM := hid (OM.out.step hb); replace PR := hid (PR.out.step hb); replace PX := hid (PX.out.step hb); replace OV := hid (OV.out.step hb); replace HB := hid (below_then HB.out hb)
              clear hb
              have OV9 := hid (ov.mono (show w.heap.size ≤ Wc3.heap.size by have := hszd.out; have := hsz1.out; have := hszA.out; have := hs5.out; have := hs7.out; have := hz8.out; omega))
              clear ov
              go_wp2_with fail
              have hS' : (fun W' : World => True) ws7 := trivial
              refine hK.out _ _ hS' (fun _ => ?_)
              clear hK K hS
              have hS := hS'
              clear hS'
              (try simp only [Act.put, List.setIfInBounds_toArray, List.set_cons_zero, List.set_cons_succ])
              refine wpAnyH_ready (rs := [8]) (by kernel_rfl) (by simp) ?_
              refine AllReadyH.cons (by simp only [List.getElem?_toArray, List.getElem?_cons_succ, List.getElem?_cons_zero]; rfl) (fun K hK => ?_) ?_
              · skip
                go_simp
                refine named_alloc ?_
                intro Wa8 hbk hb hsz
                have hsz4 := hid hsz
                replace OL := hid (OL.out.step hb); replace OH := hid (OH.out.step hb); replace OA := hid (OA.out.step hb); replace OB := hid (OB.out.step hb); replace PM := hid (PM.out.step hb); replace OM := hid (OM.out.step hb); replace PR := hid (PR.out.step hb); replace PX := hid (PX.out.step hb); replace OV := hid (OV.out.step hb); replace OV9 := hid (OV9.out.step hb); replace HB := hid (below_then HB.out hb)
                have P8 := hid hbk
                clear hb hbk hsz
                have hS' : (fun W' : World => True) Wa8 := trivial
                refine hK.out _ _ hS' (fun _ => ?_)
                clear hK K hS
                have hS := hS'
                clear hS'
                (try simp only [Act.put, List.setIfInBounds_toArray, List.set_cons_zero, List.set_cons_succ])
                refine wpAnyH_ready (rs := [9]) (by kernel_rfl) (by simp) ?_
                refine AllReadyH.cons (by simp only [List.getElem?_toArray, List.getElem?_cons_succ, List.getElem?_cons_zero]; rfl) (fun K hK => ?_) ?_
                · skip
                  refine step_app encV zVl _ rfl _ _ 65 rfl w.heap.size 24 i1 _ 24 Try.underlying65 hi1 hz10 hz11 hz12 rfl H (j + 1) ch hs rfl OH.out 0 _ _ 1 _ [([x0, x1, x2].take N, V9, N, c9)] rfl (Blk.sl1 (enc := encV) (x := (([x0, x1, x2].take N, V9, N, c9) : VlE)) P8.out) encV_one (by simp only [maxLen]; omega) (by omega) HB.out.size ?_
                  intro H3 ch3 Wc9 hown hgr hat
                  have hszB := hid hgr.size
                  replace PM := hid (PM.out.keptO OH.out (by decide) hgr); replace PR := hid (PR.out.keptO OH.out (by decide) hgr); replace PX := hid (PX.out.keptO OH.out (by decide) hgr)
                  replace OM := hid (mown_keptO OM.out OH.out (by decide) (by decide) hgr); replace OV := hid (OV.out.keptO OH.out (by decide) hgr); replace OL := hid (OL.out.keptO OH.out (by decide) hgr); replace OV9 := hid (OV9.out.keptO OH.out (by decide) hgr)
                  replace OA := hid (OA.out.keptO OH.out (by decide) hgr); replace OB := hid (OB.out.keptO OH.out (by decide) hgr)
                  replace HB := hid (HB.out.grown hgr HB.out.size (fun k hk => OH.out.row_ge k hk))
                  replace OH := hid hown
                  clear hown hgr hat P8
                  have hS' : (fun W' : World => True) Wc9 := trivial
                  refine hK.out _ _ hS' (fun _ => ?_)
                  clear hK K hS
                  have hS := hS'
                  clear hS'
                  (try simp only [Act.put, List.setIfInBounds_toArray, List.set_cons_zero, List.set_cons_succ])
                  refine wpAnyH_take (i := 10) (v := ?_) (by simp only [List.getElem?_toArray, List.getElem?_cons_succ, List.getElem?_cons_zero]; rfl) (by kernel_rfl) (by kernel_rfl) (by kernel_rfl) (fun _ _ _ h => h) (Or.inl ⟨by rfl, ?_⟩) hS ?_
                  rotate_left
                  · intro w' hSw; (try dsimp only at hSw); go_split_ands; go_simp; (try with_reducible rfl)
                  (try simp only [Act.put, List.setIfInBounds_toArray, List.set_cons_zero, List.set_cons_succ])
                  refine wpAnyH_take (i := 11) (v := ?_) (by simp only [List.getElem?_toArray, List.getElem?_cons_succ, List.getElem?_cons_zero]; rfl) (by kernel_rfl) (by kernel_rfl) (by kernel_rfl) (fun _ _ _ h => h) (Or.inl ⟨by rfl, ?_⟩) hS ?_
                  rotate_left
                  · intro w' hSw; (try dsimp only at hSw); go_split_ands; go_simp; (try with_reducible rfl)
                  (try simp only [Act.put, List.setIfInBounds_toArray, List.set_cons_zero, List.set_cons_succ])
                  refine wpAnyH_done (by kernel_rfl) ?_ _
                  refine NoPanic.normal ?_
                  clear hS
                  go_wp2_with fail
                  have HV1 := hid (show sqV N rs (j + 1) = [x0, x1, x2].take N by show (trL (rs[j]?.getD (0, 0, 0))).take N = _; rw [← HX.out]; rfl)
                  go_roundw
                  case rel => exact ⟨j + 1, L3, cl3, H3, ch3, by omega, by omega, by go_num, rfl, rfl, ⟨⟨_, _, OL.out, OH.out, by rw [List.map_append]; exact OA.out.snoc OV.out, OB.out.snoc OV9.out, fun i hi => by
                      rw [List.map_append, List.getElem?_append]
                      have hl := OL.out.len
                      rw [List.length_append] at hl
                      simp only [List.length_map]
                      have hle : es.length = j := by simpa using hl
                      rw [hle]
                      by_cases e : i < j
                      · rw [if_pos e]; exact HE5.out i e
                      · rw [if_neg e, show i - j = 0 by omega, show i = j by omega, HV1.out]; rfl, fun i hi => by
                      by_cases e : i ≤ j
                      · obtain ⟨x, hx, hx2⟩ := HE6.out i e
                        exact ⟨x, List.mem_append_left _ hx, hx2⟩
                      · exact ⟨_, List.mem_append_right _ (List.mem_singleton.2 rfl), by rw [show i = j + 1 by omega, HV1.out]⟩, fun x hx => by
                      rcases List.mem_append.1 hx with h | h
                      · exact HE7.out x h
                      · rw [List.mem_singleton] at h; subst h; rfl, fun x hx => by
                      rcases List.mem_append.1 hx with h | h
                      · exact HE8.out x h
                      · rw [List.mem_singleton] at h; subst h; rfl⟩, PM.out, OM.out, PR.out, HB.out⟩⟩
                  case measure => simp [intOf]; omega
                exact AllReadyH.nil
              exact AllReadyH.nil
            exact AllReadyH.nil
          exact AllReadyH.nil
        exact AllReadyH.nil
      exact AllReadyH.nil
  case rest =>
    obtain ⟨j, L, cl, H, ch, hj4, rfl, rfl, hI⟩ := hcut
    rename World => W9
    obtain ⟨⟨es, hs, h1, h2, h3, h4, h5, h6, h7, h12⟩, h8, h9, h10, h11⟩ := hI
    clear HST
    have OL := hid h1; have OH := hid h2; have OA := hid h3; have OB := hid h4; have HE5 := hid h5; have HE6 := hid h6; have HE7 := hid h7; have PM := hid h8; have OM := hid h9; have PR := hid h10; have HB := hid h11; have HE8 := hid h12
    clear h1 h2 h3 h4 h5 h6 h7 h8 h9 h10 h11 h12
    obtain ⟨p4, hp4⟩ : ∃ m, m = min nq 80 := ⟨_, rfl⟩
    obtain ⟨qs, hqs⟩ : ∃ l, l = ps.take 80 := ⟨_, rfl⟩
    have hmm : (if (80 : Int) < (nq : Int) then (80 : Int) else (nq : Int)) = (p4 : Int) := by split <;> omega
    have hmm2 : min (nq : Int) 80 = (p4 : Int) := by omega
    have hmc1 : (p4 : Int) ≤ (cq : Int) := by omega
    have hmc0 : (0 : Int) ≤ (p4 : Int) := by omega
    have XQ := hid (show Sl blv false w 0 w.heap.size Q p4 qs by
      rw [hp4, hqs]
      by_cases h18 : nq ≤ 80
      · rw [show min nq 80 = nq by omega, List.take_of_length_le (by rw [HQ.out.len]; exact h18)]; exact HQ.out
      · rw [show min nq 80 = 80 by omega]; exact HQ.out.take (by omega))
    have hp80 : p4 ≤ 80 := by omega
    clear hp4 hqs
    obtain ⟨m0, hm0⟩ : ∃ m : MSt, m = (List.replicate 12 0, List.replicate 12 true, false) := ⟨_, rfl⟩
    obtain ⟨r0, hr0⟩ : ∃ r : Srd, r = ⟨9, 2, N, 0, 0, [], 0⟩ := ⟨_, rfl⟩
    obtain ⟨⟨m9, r9, l9⟩, hX⟩ : ∃ x, x = sqplay (m0, r0, es.map Prod.fst) qs := ⟨_, rfl⟩
    have hlen := hid OL.out.len
    have hV := sqV_ok (Nw := j) (rs := rs) hN1 hN3 hj4 HRO.out
    have hst := sq_start hV rfl (es.map Prod.fst) (by rw [List.length_map, hlen.out]) HE5.out
    rw [← hm0, ← hr0] at hst
    have hend := sqplay_end hV qs hst.1 (by rw [hm0] at hst ⊢; exact hst.2)
    have hall : AllWr (es.map Prod.fst) := fun s hs => by
      obtain ⟨i, hi⟩ := List.mem_iff_getElem?.1 hs
      have hij : i < j := by
        have := (List.getElem?_eq_some_iff.1 hi).1
        rw [List.length_map, hlen.out] at this; exact this
      rw [HE5.out i hij] at hi
      obtain rfl := Option.some.inj hi
      have := hV.len (i + 1) hij
      unfold WrOkS WrOk SqG
      dsimp only
      rw [this]
      omega
    have HC := hid (show sqplayC m0 r0 (es.map Prod.fst) qs = (0, m9, r9) by
      unfold sqplayC
      rw [← hX, if_neg (not_not_intro (by rw [hm0]; decide +kernel)), if_neg (fun h => h.elim (fun h => h (by rw [hr0]; unfold RdOkS RdOk SqG; dsimp only; simp; omega)) (fun h => h hall))])
    rw [← hX] at hend
    dsimp only at hend
    have HEND := hid hend
    have hVR := fun W (h : OwAll W w.heap.size (es.map fun x => (x.1.vs, x.2))) => (show VRows W W.heap.size es from fun x hx => ⟨.inr ⟨_, _, h _ (List.mem_map.2 ⟨x, hx, rfl⟩)⟩, by rw [HE8.out x hx]; omega⟩)
    have HVR := hid hVR
    have HM0 := hid hm0; have HR0 := hid hr0
    clear hV hst hend hall hX hVR hm0 hr0
    go_upto_region 19 with fail
    have HB9 := hid HB.out.size; have HQB := hid (Below.refl W9.heap.size W9)
    go_cut [10, 17, 18] (fun se s7 s8 wx => ∃ g7 g8, se = .int .i64 0 ∧ s7 = .pointer (some ⟨g7, 0, none⟩) ∧ s8 = .pointer (some ⟨g8, 0, none⟩) ∧ QWe w wx g7 g8 m9 r9 N j L cl H ch hs)
    case first =>
      have XPM := PM; have XPR := PR
      clear PM PR
      have bx := (Below.refl W9.heap.size W9).drew
      replace OL := hid (OL.out.step bx); replace OH := hid (OH.out.step bx); replace OA := hid (OA.out.step bx); replace OB := hid (OB.out.step bx); replace OM := hid (OM.out.step bx); replace HB := hid (below_then HB.out bx); replace HQB := hid (below_then HQB.out bx)
      clear bx
      have hszd := hid (show W9.drew.heap.size = W9.heap.size from rfl)
      refine wp_region_noPanic ?_
      refine wp_region_held_drew (S := (fun W' : World => W'.cell? ⟨w2.heap.size, 0, none⟩ = some (.slice A 12 c) ∧ W'.cell? ⟨w2.heap.size, 1, none⟩ = some (.slice B 12 d) ∧ W'.cell? ⟨w2.heap.size, 2, none⟩ = some (.bool false) ∧ W'.cell? ⟨w3.heap.size, 0, none⟩ = some (.int .i64 9) ∧ W'.cell? ⟨w3.heap.size, 1, none⟩ = some (.int .i64 2) ∧ W'.cell? ⟨w3.heap.size, 2, none⟩ = some (.int .i64 N) ∧ W'.cell? ⟨w3.heap.size, 3, none⟩ = some (.int .i64 0) ∧ W'.cell? ⟨w3.heap.size, 4, none⟩ = some (.int .u64 0) ∧ W'.cell? ⟨w3.heap.size, 5, none⟩ = some (.slice none 0 0) ∧ W'.cell? ⟨w3.heap.size, 6, none⟩ = some (.int .i64 0))) (by kernel_rfl) ⟨(XPM.out.step HQB.out).cells3.1, (XPM.out.step HQB.out).cells3.2.1, (XPM.out.step HQB.out).cells3.2.2.1, (XPR.out.step HQB.out).cells7.1, (XPR.out.step HQB.out).cells7.2.1, (XPR.out.step HQB.out).cells7.2.2.1, (XPR.out.step HQB.out).cells7.2.2.2.1, (XPR.out.step HQB.out).cells7.2.2.2.2.1, (XPR.out.step HQB.out).cells7.2.2.2.2.2.1, (XPR.out.step HQB.out).cells7.2.2.2.2.2.2.1⟩ (fun hS => ?_)
      generalize W9.drew = Wd at *
      refine wpAnyH_take (i := 0) (v := ?_) (by simp only [List.getElem?_toArray, List.getElem?_cons_succ, List.getElem?_cons_zero]; rfl) (by kernel_rfl) (by kernel_rfl) (by kernel_rfl) (fun _ _ _ h => h) (Or.inl ⟨by rfl, ?_⟩) hS ?_
      rotate_left
      · intro w' hSw; (try dsimp only at hSw); go_split_ands; go_simp; (try with_reducible rfl)
      (try simp only [Act.put, List.setIfInBounds_toArray, List.set_cons_zero, List.set_cons_succ])
      refine wpAnyH_take (i := 1) (v := ?_) (by simp only [List.getElem?_toArray, List.getElem?_cons_succ, List.getElem?_cons_zero]; rfl) (by kernel_rfl) (by kernel_rfl) (by kernel_rfl) (fun _ _ _ h => h) (Or.inl ⟨by rfl, ?_⟩) hS ?_
      rotate_left
      · intro w' hSw; (try dsimp only at hSw); go_split_ands; go_simp; (try with_reducible rfl)
      (try simp only [Act.put, List.setIfInBounds_toArray, List.set_cons_zero, List.set_cons_succ])
      refine wpAnyH_take (i := 2) (v := ?_) (by simp only [List.getElem?_toArray, List.getElem?_cons_succ, List.getElem?_cons_zero]; rfl) (by kernel_rfl) (by kernel_rfl) (by kernel_rfl) (fun _ _ _ h => h) (Or.inl ⟨by rfl, ?_⟩) hS ?_
      rotate_left
      · intro w' hSw; (try dsimp only at hSw); go_split_ands; go_simp; (try with_reducible rfl)
      (try simp only [Act.put, List.setIfInBounds_toArray, List.set_cons_zero, List.set_cons_succ])
      refine wpAnyH_take (i := 3) (v := ?_) (by simp only [List.getElem?_toArray, List.getElem?_cons_succ, List.getElem?_cons_zero]; rfl) (by kernel_rfl) (by kernel_rfl) (by kernel_rfl) (fun _ _ _ h => h) (Or.inl ⟨by rfl, ?_⟩) hS ?_
      rotate_left
      · intro w' hSw; (try dsimp only at hSw); go_split_ands; go_simp; (try with_reducible rfl)
      (try simp only [Act.put, List.setIfInBounds_toArray, List.set_cons_zero, List.set_cons_succ])
      refine wpAnyH_take (i := 4) (v := ?_) (by simp only [List.getElem?_toArray, List.getElem?_cons_succ, List.getElem?_cons_zero]; rfl) (by kernel_rfl) (by kernel_rfl) (by kernel_rfl) (fun _ _ _ h => h) (Or.inl ⟨by rfl, ?_⟩) hS ?_
      rotate_left
      · intro w' hSw; (try dsimp only at hSw); go_split_ands; go_simp; (try with_reducible rfl)
      (try simp only [Act.put, List.setIfInBounds_toArray, List.set_cons_zero, List.set_cons_succ])
      refine wpAnyH_take (i := 5) (v := ?_) (by simp only [List.getElem?_toArray, List.getElem?_cons_succ, List.getElem?_cons_zero]; rfl) (by kernel_rfl) (by kernel_rfl) (by kernel_rfl) (fun _ _ _ h => h) (Or.inl ⟨by rfl, ?_⟩) hS ?_
      rotate_left
      · intro w' hSw; (try dsimp only at hSw); go_split_ands; go_simp; (try with_reducible rfl)
      (try simp only [Act.put, List.setIfInBounds_toArray, List.set_cons_zero, List.set_cons_succ])
      refine wpAnyH_take (i := 6) (v := ?_) (by simp only [List.getElem?_toArray, List.getElem?_cons_succ, List.getElem?_cons_zero]; rfl) (by kernel_rfl) (by kernel_rfl) (by kernel_rfl) (fun _ _ _ h => h) (Or.inl ⟨by rfl, ?_⟩) hS ?_
      rotate_left
      · intro w' hSw; (try dsimp only at hSw); go_split_ands; go_simp; (try with_reducible rfl)
      (try simp only [Act.put, List.setIfInBounds_toArray, List.set_cons_zero, List.set_cons_succ])
      refine wpAnyH_take (i := 7) (v := ?_) (by simp only [List.getElem?_toArray, List.getElem?_cons_succ, List.getElem?_cons_zero]; rfl) (by kernel_rfl) (by kernel_rfl) (by kernel_rfl) (fun _ _ _ h => h) (Or.inl ⟨by rfl, ?_⟩) hS ?_
      rotate_left
      · intro w' hSw; (try dsimp only at hSw); go_split_ands; go_simp; (try with_reducible rfl)
      (try simp only [Act.put, List.setIfInBounds_toArray, List.set_cons_zero, List.set_cons_succ])
      refine wpAnyH_ready (rs := [8, 13, 14]) (by kernel_rfl) (by simp) ?_
      refine AllReadyH.cons (by simp only [List.getElem?_toArray, List.getElem?_cons_succ, List.getElem?_cons_zero]; rfl) (fun K hK => ?_) ?_
      · skip
        go_simp
        refine (seqplay_any A 12 c B 12 d (List.replicate 12 0, List.replicate 12 true, false) ⟨9, 2, N, 0, 0, [], 0⟩ none 0 0 L j cl es Q p4 cq qs _ OM.out.mem (Sl.nil _ _ _ _) (by omega) (OL.out.sm.mono (Nat.zero_le _) (Nat.le_refl _)) (HVR.out _ OA.out) (by omega) ((XQ.out.below HB.out (Nat.le_refl _)).mono (Nat.le_refl _) HB.out.size) (by omega)).mono ?_
        rintro e ws8 ⟨A8, n8, c8, B8, k8, d8, V8, vn8, vc8, he, om, ov, hb⟩
        have hsz0 := hid (show Wd.heap.size ≤ ws8.heap.size from hb.size)
        replace OL := hid (OL.out.step hb); replace OH := hid (OH.out.step hb); replace OA := hid (OA.out.step hb); replace OB := hid (OB.out.step hb); replace OM := hid (OM.out.step hb); replace HB := hid (below_then HB.out hb); replace HQB := hid (below_then HQB.out hb)
        clear hb
        rw [← HM0.out, ← HR0.out, HC.out] at he om ov
        subst he
        dsimp only at ov
        have OV := hid (ov.mono (show w.heap.size ≤ Wd.heap.size by have := HB9.out; have := hszd.out; omega))
        clear om ov
        go_wp2_with fail
        refine hK.out _ _ ⟨(XPM.out.step HQB.out).cells3.1, (XPM.out.step HQB.out).cells3.2.1, (XPM.out.step HQB.out).cells3.2.2.1, (XPR.out.step HQB.out).cells7.1, (XPR.out.step HQB.out).cells7.2.1, (XPR.out.step HQB.out).cells7.2.2.1, (XPR.out.step HQB.out).cells7.2.2.2.1, (XPR.out.step HQB.out).cells7.2.2.2.2.1, (XPR.out.step HQB.out).cells7.2.2.2.2.2.1, (XPR.out.step HQB.out).cells7.2.2.2.2.2.2.1⟩ (fun hS' => ?_)
        clear hK K hS
        have hS := hS'
        clear hS'
        (try simp only [Act.put, List.setIfInBounds_toArray, List.set_cons_zero, List.set_cons_succ])
        refine wpAnyH_take (i := 9) (v := ?_) (by simp only [List.getElem?_toArray, List.getElem?_cons_succ, List.getElem?_cons_zero]; rfl) (by kernel_rfl) (by kernel_rfl) (by kernel_rfl) (fun _ _ _ h => h) (Or.inl ⟨by rfl, ?_⟩) hS ?_
        rotate_left
        · intro w' hSw; (try dsimp only at hSw); go_split_ands; go_simp; (try with_reducible rfl)
        (try simp only [Act.put, List.setIfInBounds_toArray, List.set_cons_zero, List.set_cons_succ])
        refine wpAnyH_take (i := 10) (v := ?_) (by simp only [List.getElem?_toArray, List.getElem?_cons_succ, List.getElem?_cons_zero]; rfl) (by kernel_rfl) (by kernel_rfl) (by kernel_rfl) (fun _ _ _ h => h) (Or.inl ⟨by rfl, ?_⟩) hS ?_
        rotate_left
        · intro w' hSw; (try dsimp only at hSw); go_split_ands; go_simp; (try with_reducible rfl)
        (try simp only [Act.put, List.setIfInBounds_toArray, List.set_cons_zero, List.set_cons_succ])
        refine wpAnyH_take (i := 11) (v := ?_) (by simp only [List.getElem?_toArray, List.getElem?_cons_succ, List.getElem?_cons_zero]; rfl) (by kernel_rfl) (by kernel_rfl) (by kernel_rfl) (fun _ _ _ h => h) (Or.inl ⟨by rfl, ?_⟩) hS ?_
        rotate_left
        · intro w' hSw; (try dsimp only at hSw); go_split_ands; go_simp; (try with_reducible rfl)
        (try simp only [Act.put, List.setIfInBounds_toArray, List.set_cons_zero, List.set_cons_succ])
        refine wpAnyH_take (i := 12) (v := ?_) (by simp only [List.getElem?_toArray, List.getElem?_cons_succ, List.getElem?_cons_zero]; rfl) (by kernel_rfl) (by kernel_rfl) (by kernel_rfl) (fun _ _ _ h => h) (Or.inl ⟨by rfl, ?_⟩) hS ?_
        rotate_left
        · intro w' hSw; (try dsimp only at hSw); go_split_ands; go_simp; (try with_reducible rfl)
        (try simp only [Act.put, List.setIfInBounds_toArray, List.set_cons_zero, List.set_cons_succ])
        refine wpAnyH_ready (rs := [13, 14]) (by kernel_rfl) (by simp) ?_
        refine AllReadyH.cons (by simp only [List.getElem?_toArray, List.getElem?_cons_succ, List.getElem?_cons_zero]; rfl) (fun K hK => ?_) ?_
        · skip
          go_simp
          refine named_alloc ?_
          intro Wa13 hbk hb hsz
          have hsz1 := hid hsz
          replace OL := hid (OL.out.step hb); replace OH := hid (OH.out.step hb); replace OA := hid (OA.out.step hb); replace OB := hid (OB.out.step hb); replace OM := hid (OM.out.step hb); replace OV := hid (OV.out.step hb); replace HB := hid (below_then HB.out hb); replace HQB := hid (below_then HQB.out hb)
          have PN := hid hbk
          clear hb hbk hsz
          refine hK.out _ _ ⟨(XPM.out.step HQB.out).cells3.1, (XPM.out.step HQB.out).cells3.2.1, (XPM.out.step HQB.out).cells3.2.2.1, (XPR.out.step HQB.out).cells7.1, (XPR.out.step HQB.out).cells7.2.1, (XPR.out.step HQB.out).cells7.2.2.1, (XPR.out.step HQB.out).cells7.2.2.2.1, (XPR.out.step HQB.out).cells7.2.2.2.2.1, (XPR.out.step HQB.out).cells7.2.2.2.2.2.1, (XPR.out.step HQB.out).cells7.2.2.2.2.2.2.1⟩ (fun hS' => ?_)
          clear hK K hS
          have hS := hS'
          clear hS'
          (try simp only [Act.put, List.setIfInBounds_toArray, List.set_cons_zero, List.set_cons_succ])
          refine wpAnyH_ready (rs := [14]) (by kernel_rfl) (by simp) ?_
          refine AllReadyH.cons (by simp only [List.getElem?_toArray, List.getElem?_cons_succ, List.getElem?_cons_zero]; rfl) (fun K hK => ?_) ?_
          · skip
            go_simp
            refine named_alloc ?_
            intro Wa14 hbk hb hsz
            have hsz2 := hid hsz
            replace OL := hid (OL.out.step hb); replace OH := hid (OH.out.step hb); replace OA := hid (OA.out.step hb); replace OB := hid (OB.out.step hb); replace OM := hid (OM.out.step hb); replace OV := hid (OV.out.step hb); replace PN := hid (PN.out.step hb); replace HB := hid (below_then HB.out hb); replace HQB := hid (below_then HQB.out hb)
            have PT := hid hbk
            clear hb hbk hsz
            refine hK.out _ _ ⟨(XPM.out.step HQB.out).cells3.1, (XPM.out.step HQB.out).cells3.2.1, (XPM.out.step HQB.out).cells3.2.2.1, (XPR.out.step HQB.out).cells7.1, (XPR.out.step HQB.out).cells7.2.1, (XPR.out.step HQB.out).cells7.2.2.1, (XPR.out.step HQB.out).cells7.2.2.2.1, (XPR.out.step HQB.out).cells7.2.2.2.2.1, (XPR.out.step HQB.out).cells7.2.2.2.2.2.1, (XPR.out.step HQB.out).cells7.2.2.2.2.2.2.1⟩ (fun hS' => ?_)
            clear hK K hS
            have hS := hS'
            clear hS'
            (try simp only [Act.put, List.setIfInBounds_toArray, List.set_cons_zero, List.set_cons_succ])
            refine wpAnyH_ready (rs := [15]) (by kernel_rfl) (by simp) ?_
            refine AllReadyH.cons (by simp only [List.getElem?_toArray, List.getElem?_cons_succ, List.getElem?_cons_zero]; rfl) (fun K hK => ?_) ?_
            · skip
              obtain ⟨y00, y01, y02, yf0⟩ := PN.out.cells3
              go_simp
              clear y00 y01 y02 yf0
              refine named_store3 PN.out ?_
              intro Ws15 hbk hgr hsz
              have hsz3 := hid hsz
              clear hsz
              replace PT := hid (PT.out.grown hgr (fun e => PN.out.ne PT.out (by decide) (by simpa using e.symm)))
              replace OV := hid (OV.out.keptG hgr (fun v hv e => OV.out.ne_blk PN.out tm1 v hv (by simpa using e)))
              replace OH := hid (OH.out.keptG hgr (fun v hv e => OH.out.ne_blk PN.out (by decide) v hv (by simpa using e)))
              replace OB := hid (OB.out.kept PN.out tm1 hgr)
              replace HB := hid (HB.out.grown hgr HB.out.size (fun r e => by cases e; have := HB9.out; have := hszd.out; have := hsz0.out; have := hsz1.out; have := hsz2.out; have := hsz3.out; omega))
              replace HQB := hid (HQB.out.grown hgr HQB.out.size (fun r e => by cases e; have := hszd.out; have := hsz0.out; have := hsz1.out; have := hsz2.out; have := hsz3.out; omega))
              replace PN := hid hbk
              clear hbk hgr
              refine hK.out _ _ ⟨(XPM.out.step HQB.out).cells3.1, (XPM.out.step HQB.out).cells3.2.1, (XPM.out.step HQB.out).cells3.2.2.1, (XPR.out.step HQB.out).cells7.1, (XPR.out.step HQB.out).cells7.2.1, (XPR.out.step HQB.out).cells7.2.2.1, (XPR.out.step HQB.out).cells7.2.2.2.1, (XPR.out.step HQB.out).cells7.2.2.2.2.1, (XPR.out.step HQB.out).cells7.2.2.2.2.2.1, (XPR.out.step HQB.out).cells7.2.2.2.2.2.2.1⟩ (fun hS' => ?_)
              clear hK K hS
              have hS := hS'
              clear hS'
              (try simp only [Act.put, List.setIfInBounds_toArray, List.set_cons_zero, List.set_cons_succ])
              refine wpAnyH_ready (rs := [16]) (by kernel_rfl) (by simp) ?_
              refine AllReadyH.cons (by simp only [List.getElem?_toArray, List.getElem?_cons_succ, List.getElem?_cons_zero]; rfl) (fun K hK => ?_) ?_
              · skip
                obtain ⟨y00, y01, y02, y03, y04, y05, y06, yf0⟩ := PT.out.cells7
                go_simp
                clear y00 y01 y02 y03 y04 y05 y06 yf0
                refine named_store_7_7_0 PT.out ?_
                intro Ws16 hbk hgr hsz
                have hsz4 := hid hsz
                clear hsz
                replace PN := hid (PN.out.grown hgr (fun e => PN.out.ne PT.out (by decide) (by simpa using e)))
                replace OV := hid (OV.out.keptG hgr (fun v hv e => OV.out.ne_blk PT.out ts1 v hv (by simpa using e)))
                replace OH := hid (OH.out.keptG hgr (fun v hv e => OH.out.ne_blk PT.out (by decide) v hv (by simpa using e)))
                replace OB := hid (OB.out.kept PT.out ts1 hgr)
                replace HB := hid (HB.out.grown hgr HB.out.size (fun r e => by cases e; have := HB9.out; have := hszd.out; have := hsz0.out; have := hsz1.out; have := hsz2.out; have := hsz3.out; have := hsz4.out; omega))
                replace HQB := hid (HQB.out.grown hgr HQB.out.size (fun r e => by cases e; have := hszd.out; have := hsz0.out; have := hsz1.out; have := hsz2.out; have := hsz3.out; have := hsz4.out; omega))
                replace PT := hid hbk
                clear hbk hgr
                refine hK.out _ _ ⟨(XPM.out.step HQB.out).cells3.1, (XPM.out.step HQB.out).cells3.2.1, (XPM.out.step HQB.out).cells3.2.2.1, (XPR.out.step HQB.out).cells7.1, (XPR.out.step HQB.out).cells7.2.1, (XPR.out.step HQB.out).cells7.2.2.1, (XPR.out.step HQB.out).cells7.2.2.2.1, (XPR.out.step HQB.out).cells7.2.2.2.2.1, (XPR.out.step HQB.out).cells7.2.2.2.2.2.1, (XPR.out.step HQB.out).cells7.2.2.2.2.2.2.1⟩ (fun hS' => ?_)
                clear hK K hS
                have hS := hS'
                clear hS'
                (try simp only [Act.put, List.setIfInBounds_toArray, List.set_cons_zero, List.set_cons_succ])
                refine wpAnyH_take (i := 17) (v := ?_) (by simp only [List.getElem?_toArray, List.getElem?_cons_succ, List.getElem?_cons_zero]; rfl) (by kernel_rfl) (by kernel_rfl) (by kernel_rfl) (fun _ _ _ h => h) (Or.inl ⟨by rfl, ?_⟩) hS ?_
                rotate_left
                · intro w' hSw; (try dsimp only at hSw); go_split_ands; go_simp; (try with_reducible rfl)
                (try simp only [Act.put, List.setIfInBounds_toArray, List.set_cons_zero, List.set_cons_succ])
                refine wpAnyH_done (by kernel_rfl) ?_ _
                refine NoPanic.normal ?_
                clear hS
                go_wp2_with fail
                go_meet
                exact ⟨_, _, rfl, rfl, rfl, ⟨⟨_, _, _, _, _, _, _, _, _, PN.out, PT.out, OV.out⟩, OH.out, OB.out, HB.out⟩⟩
              exact AllReadyH.nil
            exact AllReadyH.nil
          exact AllReadyH.nil
        refine AllReadyH.cons (by simp only [List.getElem?_toArray, List.getElem?_cons_succ, List.getElem?_cons_zero]; rfl) (fun K hK => ?_) ?_
        · skip
          go_simp
          refine named_alloc ?_
          intro Wa14 hbk hb hsz
          have hsz1 := hid hsz
          replace OL := hid (OL.out.step hb); replace OH := hid (OH.out.step hb); replace OA := hid (OA.out.step hb); replace OB := hid (OB.out.step hb); replace OM := hid (OM.out.step hb); replace OV := hid (OV.out.step hb); replace HB := hid (below_then HB.out hb); replace HQB := hid (below_then HQB.out hb)
          have PT := hid hbk
          clear hb hbk hsz
          refine hK.out _ _ ⟨(XPM.out.step HQB.out).cells3.1, (XPM.out.step HQB.out).cells3.2.1, (XPM.out.step HQB.out).cells3.2.2.1, (XPR.out.step HQB.out).cells7.1, (XPR.out.step HQB.out).cells7.2.1, (XPR.out.step HQB.out).cells7.2.2.1, (XPR.out.step HQB.out).cells7.2.2.2.1, (XPR.out.step HQB.out).cells7.2.2.2.2.1, (XPR.out.step HQB.out).cells7.2.2.2.2.2.1, (XPR.out.step HQB.out).cells7.2.2.2.2.2.2.1⟩ (fun hS' => ?_)
          clear hK K hS
          have hS := hS'
          clear hS'
          (try simp only [Act.put, List.setIfInBounds_toArray, List.set_cons_zero, List.set_cons_succ])
          refine wpAnyH_ready (rs := [13]) (by kernel_rfl) (by simp) ?_
          refine AllReadyH.cons (by simp only [List.getElem?_toArray, List.getElem?_cons_succ, List.getElem?_cons_zero]; rfl) (fun K hK => ?_) ?_
          · skip
            go_simp
            refine named_alloc ?_
            intro Wa13 hbk hb hsz
            have hsz2 := hid hsz
            replace OL := hid (OL.out.step hb); replace OH := hid (OH.out.step hb); replace OA := hid (OA.out.step hb); replace OB := hid (OB.out.step hb); replace OM := hid (OM.out.step hb); replace OV := hid (OV.out.step hb); replace PT := hid (PT.out.step hb); replace HB := hid (below_then HB.out hb); replace HQB := hid (below_then HQB.out hb)
            have PN := hid hbk
            clear hb hbk hsz
            refine hK.out _ _ ⟨(XPM.out.step HQB.out).cells3.1, (XPM.out.step HQB.out).cells3.2.1, (XPM.out.step HQB.out).cells3.2.2.1, (XPR.out.step HQB.out).cells7.1, (XPR.out.step HQB.out).cells7.2.1, (XPR.out.step HQB.out).cells7.2.2.1, (XPR.out.step HQB.out).cells7.2.2.2.1, (XPR.out.step HQB.out).cells7.2.2.2.2.1, (XPR.out.step HQB.out).cells7.2.2.2.2.2.1, (XPR.out.step HQB.out).cells7.2.2.2.2.2.2.1⟩ (fun hS' => ?_)
            clear hK K hS
            have hS := hS'
            clear hS'
            (try simp only [Act.put, List.setIfInBounds_toArray, List.set_cons_zero, List.set_cons_succ])
            refine wpAnyH_ready (rs := [15]) (by kernel_rfl) (by simp) ?_
            refine AllReadyH.cons (by simp only [List.getElem?_toArray, List.getElem?_cons_succ, List.getElem?_cons_zero]; rfl) (fun K hK => ?_) ?_
            · skip
              obtain ⟨y00, y01, y02, yf0⟩ := PN.out.cells3
              go_simp
              clear y00 y01 y02 yf0
              refine named_store3 PN.out ?_
              intro Ws15 hbk hgr hsz
              have hsz3 := hid hsz
              clear hsz
              replace PT := hid (PT.out.grown hgr (fun e => PN.out.ne PT.out (by decide) (by simpa using e.symm)))
              replace OV := hid (OV.out.keptG hgr (fun v hv e => OV.out.ne_blk PN.out tm1 v hv (by simpa using e)))
              replace OH := hid (OH.out.keptG hgr (fun v hv e => OH.out.ne_blk PN.out (by decide) v hv (by simpa using e)))
              replace OB := hid (OB.out.kept PN.out tm1 hgr)
              replace HB := hid (HB.out.grown hgr HB.out.size (fun r e => by cases e; have := HB9.out; have := hszd.out; have := hsz0.out; have := hsz1.out; have := hsz2.out; have := hsz3.out; omega))
              replace HQB := hid (HQB.out.grown hgr HQB.out.size (fun r e => by cases e; have := hszd.out; have := hsz0.out; have := hsz1.out; have := hsz2.out; have := hsz3.out; omega))
              replace PN := hid hbk
              clear hbk hgr
              refine hK.out _ _ ⟨(XPM.out.step HQB.out).cells3.1, (XPM.out.step HQB.out).cells3.2.1, (XPM.out.step HQB.out).cells3.2.2.1, (XPR.out.step HQB.out).cells7.1, (XPR.out.step HQB.out).cells7.2.1, (XPR.out.step HQB.out).cells7.2.2.1, (XPR.out.step HQB.out).cells7.2.2.2.1, (XPR.out.step HQB.out).cells7.2.2.2.2.1, (XPR.out.step HQB.out).cells7.2.2.2.2.2.1, (XPR.out.step HQB.out).cells7.2.2.2.2.2.2.1⟩ (fun hS' => ?_)
              clear hK K hS
              have hS := hS'
              clear hS'
              (try simp only [Act.put, List.setIfInBounds_toArray, List.set_cons_zero, List.set_cons_succ])
              refine wpAnyH_ready (rs := [16]) (by kernel_rfl) (by simp) ?_
              refine AllReadyH.cons (by simp only [List.getElem?_toArray, List.getElem?_cons_succ, List.getElem?_cons_zero]; rfl) (fun K hK => ?_) ?_
              · skip
                obtain ⟨y00, y01, y02, y03, y04, y05, y06, yf0⟩ := PT.out.cells7
                go_simp
                clear y00 y01 y02 y03 y04 y05 y06 yf0
                refine named_store_7_7_0 PT.out ?_
                intro Ws16 hbk hgr hsz
                have hsz4 := hid hsz
                clear hsz
                replace PN := hid (PN.out.grown hgr (fun e => PN.out.ne PT.out (by decide) (by simpa using e)))
                replace OV := hid (OV.out.keptG hgr (fun v hv e => OV.out.ne_blk PT.out ts1 v hv (by simpa using e)))
                replace OH := hid (OH.out.keptG hgr (fun v hv e => OH.out.ne_blk PT.out (by decide) v hv (by simpa using e)))
                replace OB := hid (OB.out.kept PT.out ts1 hgr)
                replace HB := hid (HB.out.grown hgr HB.out.size (fun r e => by cases e; have := HB9.out; have := hszd.out; have := hsz0.out; have := hsz1.out; have := hsz2.out; have := hsz3.out; have := hsz4.out; omega))
                replace HQB := hid (HQB.out.grown hgr HQB.out.size (fun r e => by cases e; have := hszd.out; have := hsz0.out; have := hsz1.out; have := hsz2.out; have := hsz3.out; have := hsz4.out; omega))
                replace PT := hid hbk
                clear hbk hgr
                refine hK.out _ _ ⟨(XPM.out.step HQB.out).cells3.1, (XPM.out.step HQB.out).cells3.2.1, (XPM.out.step HQB.out).cells3.2.2.1, (XPR.out.step HQB.out).cells7.1, (XPR.out.step HQB.out).cells7.2.1, (XPR.out.step HQB.out).cells7.2.2.1, (XPR.out.step HQB.out).cells7.2.2.2.1, (XPR.out.step HQB.out).cells7.2.2.2.2.1, (XPR.out.step HQB.out).cells7.2.2.2.2.2.1, (XPR.out.step HQB.out).cells7.2.2.2.2.2.2.1⟩ (fun hS' => ?_)
                clear hK K hS
                have hS := hS'
                clear hS'
                (try simp only [Act.put, List.setIfInBounds_toArray, List.set_cons_zero, List.set_cons_succ])
                refine wpAnyH_take (i := 17) (v := ?_) (by simp only [List.getElem?_toArray, List.getElem?_cons_succ, List.getElem?_cons_zero]; rfl) (by kernel_rfl) (by kernel_rfl) (by kernel_rfl) (fun _ _ _ h => h) (Or.inl ⟨by rfl, ?_⟩) hS ?_
                rotate_left
                · intro w' hSw; (try dsimp only at hSw); go_split_ands; go_simp; (try with_reducible rfl)
                (try simp only [Act.put, List.setIfInBounds_toArray, List.set_cons_zero, List.set_cons_succ])
                refine wpAnyH_done (by kernel_rfl) ?_ _
                refine NoPanic.normal ?_
                clear hS
                go_wp2_with fail
                go_meet
                exact ⟨_, _, rfl, rfl, rfl, ⟨⟨_, _, _, _, _, _, _, _, _, PN.out, PT.out, OV.out⟩, OH.out, OB.out, HB.out⟩⟩
              exact AllReadyH.nil
            exact AllReadyH.nil
          exact AllReadyH.nil
        exact AllReadyH.nil
      refine AllReadyH.cons (by simp only [List.getElem?_toArray, List.getElem?_cons_succ, List.getElem?_cons_zero]; rfl) (fun K hK => ?_) ?_
      · skip
        go_simp
        refine named_alloc ?_
        intro Wa13 hbk hb hsz
        have hsz0 := hid hsz
        replace OL := hid (OL.out.step hb); replace OH := hid (OH.out.step hb); replace OA := hid (OA.out.step hb); replace OB := hid (OB.out.step hb); replace OM := hid (OM.out.step hb); replace HB := hid (below_then HB.out hb); replace HQB := hid (below_then HQB.out hb)
        have PN := hid hbk
        clear hb hbk hsz
        refine hK.out _ _ ⟨(XPM.out.step HQB.out).cells3.1, (XPM.out.step HQB.out).cells3.2.1, (XPM.out.step HQB.out).cells3.2.2.1, (XPR.out.step HQB.out).cells7.1, (XPR.out.step HQB.out).cells7.2.1, (XPR.out.step HQB.out).cells7.2.2.1, (XPR.out.step HQB.out).cells7.2.2.2.1, (XPR.out.step HQB.out).cells7.2.2.2.2.1, (XPR.out.step HQB.out).cells7.2.2.2.2.2.1, (XPR.out.step HQB.out).cells7.2.2.2.2.2.2.1⟩ (fun hS' => ?_)
        clear hK K hS
        have hS := hS'
        clear hS'
        (try simp only [Act.put, List.setIfInBounds_toArray, List.set_cons_zero, List.set_cons_succ])
        refine wpAnyH_ready (rs := [8, 14]) (by kernel_rfl) (by simp) ?_
        refine AllReadyH.cons (by simp only [List.getElem?_toArray, List.getElem?_cons_succ, List.getElem?_cons_zero]; rfl) (fun K hK => ?_) ?_
        · skip
          go_simp
          refine (seqplay_any A 12 c B 12 d (List.replicate 12 0, List.replicate 12 true, false) ⟨9, 2, N, 0, 0, [], 0⟩ none 0 0 L j cl es Q p4 cq qs _ OM.out.mem (Sl.nil _ _ _ _) (by omega) (OL.out.sm.mono (Nat.zero_le _) (Nat.le_refl _)) (HVR.out _ OA.out) (by omega) ((XQ.out.below HB.out (Nat.le_refl _)).mono (Nat.le_refl _) HB.out.size) (by omega)).mono ?_
          rintro e ws8 ⟨A8, n8, c8, B8, k8, d8, V8, vn8, vc8, he, om, ov, hb⟩
          have hsz1 := hid (show Wa13.heap.size ≤ ws8.heap.size from hb.size)
          replace OL := hid (OL.out.step hb); replace OH := hid (OH.out.step hb); replace OA := hid (OA.out.step hb); replace OB := hid (OB.out.step hb); replace OM := hid (OM.out.step hb); replace PN := hid (PN.out.step hb); replace HB := hid (below_then HB.out hb); replace HQB := hid (below_then HQB.out hb)
          clear hb
          rw [← HM0.out, ← HR0.out, HC.out] at he om ov
          subst he
          dsimp only at ov
          have OV := hid (ov.mono (show w.heap.size ≤ Wa13.heap.size by have := HB9.out; have := hszd.out; have := hsz0.out; omega))
          clear om ov
          go_wp2_with fail
          refine hK.out _ _ ⟨(XPM.out.step HQB.out).cells3.1, (XPM.out.step HQB.out).cells3.2.1, (XPM.out.step HQB.out).cells3.2.2.1, (XPR.out.step HQB.out).cells7.1, (XPR.out.step HQB.out).cells7.2.1, (XPR.out.step HQB.out).cells7.2.2.1, (XPR.out.step HQB.out).cells7.2.2.2.1, (XPR.out.step HQB.out).cells7.2.2.2.2.1, (XPR.out.step HQB.out).cells7.2.2.2.2.2.1, (XPR.out.step HQB.out).cells7.2.2.2.2.2.2.1⟩ (fun hS' => ?_)
          clear hK K hS
          have hS := hS'
          clear hS'
          (try simp only [Act.put, List.setIfInBounds_toArray, List.set_cons_zero, List.set_cons_succ])
          refine wpAnyH_take (i := 9) (v := ?_) (by simp only [List.getElem?_toArray, List.getElem?_cons_succ, List.getElem?_cons_zero]; rfl) (by kernel_rfl) (by kernel_rfl) (by kernel_rfl) (fun _ _ _ h => h) (Or.inl ⟨by rfl, ?_⟩) hS ?_
          rotate_left
          · intro w' hSw; (try dsimp only at hSw); go_split_ands; go_simp; (try with_reducible rfl)
          (try simp only [Act.put, List.setIfInBounds_toArray, List.set_cons_zero, List.set_cons_succ])
          refine wpAnyH_take (i := 10) (v := ?_) (by simp only [List.getElem?_toArray, List.getElem?_cons_succ, List.getElem?_cons_zero]; rfl) (by kernel_rfl) (by kernel_rfl) (by kernel_rfl) (fun _ _ _ h => h) (Or.inl ⟨by rfl, ?_⟩) hS ?_
          rotate_left
          · intro w' hSw; (try dsimp only at hSw); go_split_ands; go_simp; (try with_reducible rfl)
          (try simp only [Act.put, List.setIfInBounds_toArray, List.set_cons_zero, List.set_cons_succ])
          refine wpAnyH_take (i := 11) (v := ?_) (by simp only [List.getElem?_toArray, List.getElem?_cons_succ, List.getElem?_cons_zero]; rfl) (by kernel_rfl) (by kernel_rfl) (by kernel_rfl) (fun _ _ _ h => h) (Or.inl ⟨by rfl, ?_⟩) hS ?_
          rotate_left
          · intro w' hSw; (try dsimp only at hSw); go_split_ands; go_simp; (try with_reducible rfl)
          (try simp only [Act.put, List.setIfInBounds_toArray, List.set_cons_zero, List.set_cons_succ])
          refine wpAnyH_take (i := 12) (v := ?_) (by simp only [List.getElem?_toArray, List.getElem?_cons_succ, List.getElem?_cons_zero]; rfl) (by kernel_rfl) (by kernel_rfl) (by kernel_rfl) (fun _ _ _ h => h) (Or.inl ⟨by rfl, ?_⟩) hS ?_
          rotate_left
          · intro w' hSw; (try dsimp only at hSw); go_split_ands; go_simp; (try with_reducible rfl)
          (try simp only [Act.put, List.setIfInBounds_toArray, List.set_cons_zero, List.set_cons_succ])
          refine wpAnyH_ready (rs := [14]) (by kernel_rfl) (by simp) ?_
          refine AllReadyH.cons (by simp only [List.getElem?_toArray, List.getElem?_cons_succ, List.getElem?_cons_zero]; rfl) (fun K hK => ?_) ?_
          · skip
            go_simp
            refine named_alloc ?_
            intro Wa14 hbk hb hsz
            have hsz2 := hid hsz
            replace OL := hid (OL.out.step hb); replace OH := hid (OH.out.step hb); replace OA := hid (OA.out.step hb); replace OB := hid (OB.out.step hb); replace OM := hid (OM.out.step hb); replace PN := hid (PN.out.step hb); replace OV := hid (OV.out.step hb); replace HB := hid (below_then HB.out hb); replace HQB := hid (below_then HQB.out hb)
            have PT := hid hbk
            clear hb hbk hsz
            refine hK.out _ _ ⟨(XPM.out.step HQB.out).cells3.1, (XPM.out.step HQB.out).cells3.2.1, (XPM.out.step HQB.out).cells3.2.2.1, (XPR.out.step HQB.out).cells7.1, (XPR.out.step HQB.out).cells7.2.1, (XPR.out.step HQB.out).cells7.2.2.1, (XPR.out.step HQB.out).cells7.2.2.2.1, (XPR.out.step HQB.out).cells7.2.2.2.2.1, (XPR.out.step HQB.out).cells7.2.2.2.2.2.1, (XPR.out.step HQB.out).cells7.2.2.2.2.2.2.1⟩ (fun hS' => ?_)
            clear hK K hS
            have hS := hS'
            clear hS'
            (try simp only [Act.put, List.setIfInBounds_toArray, List.set_cons_zero, List.set_cons_succ])
            refine wpAnyH_ready (rs := [15]) (by kernel_rfl) (by simp) ?_
            refine AllReadyH.cons (by simp only [List.getElem?_toArray, List.getElem?_cons_succ, List.getElem?_cons_zero]; rfl) (fun K hK => ?_) ?_
            · skip
              obtain ⟨y00, y01, y02, yf0⟩ := PN.out.cells3
              go_simp
              clear y00 y01 y02 yf0
              refine named_store3 PN.out ?_
              intro Ws15 hbk hgr hsz
              have hsz3 := hid hsz
              clear hsz
              replace PT := hid (PT.out.grown hgr (fun e => PN.out.ne PT.out (by decide) (by simpa using e.symm)))
              replace OV := hid (OV.out.keptG hgr (fun v hv e => OV.out.ne_blk PN.out tm1 v hv (by simpa using e)))
              replace OH := hid (OH.out.keptG hgr (fun v hv e => OH.out.ne_blk PN.out (by decide) v hv (by simpa using e)))
              replace OB := hid (OB.out.kept PN.out tm1 hgr)
              replace HB := hid (HB.out.grown hgr HB.out.size (fun r e => by cases e; have := HB9.out; have := hszd.out; have := hsz0.out; have := hsz1.out; have := hsz2.out; have := hsz3.out; omega))
              replace HQB := hid (HQB.out.grown hgr HQB.out.size (fun r e => by cases e; have := hszd.out; have := hsz0.out; have := hsz1.out; have := hsz2.out; have := hsz3.out; omega))
              replace PN := hid hbk
              clear hbk hgr
              refine hK.out _ _ ⟨(XPM.out.step HQB.out).cells3.1, (XPM.out.step HQB.out).cells3.2.1, (XPM.out.step HQB.out).cells3.2.2.1, (XPR.out.step HQB.out).cells7.1, (XPR.out.step HQB.out).cells7.2.1, (XPR.out.step HQB.out).cells7.2.2.1, (XPR.out.step HQB.out).cells7.2.2.2.1, (XPR.out.step HQB.out).cells7.2.2.2.2.1, (XPR.out.step HQB.out).cells7.2.2.2.2.2.1, (XPR.out.step HQB.out).cells7.2.2.2.2.2.2.1⟩ (fun hS' => ?_)
              clear hK K hS
              have hS := hS'
              clear hS'
              (try simp only [Act.put, List.setIfInBounds_toArray, List.set_cons_zero, List.set_cons_succ])
              refine wpAnyH_ready (rs := [16]) (by kernel_rfl) (by simp) ?_
              refine AllReadyH.cons (by simp only [List.getElem?_toArray, List.getElem?_cons_succ, List.getElem?_cons_zero]; rfl) (fun K hK => ?_) ?_
              · skip
                obtain ⟨y00, y01, y02, y03, y04, y05, y06, yf0⟩ := PT.out.cells7
                go_simp
                clear y00 y01 y02 y03 y04 y05 y06 yf0
                refine named_store_7_7_0 PT.out ?_
                intro Ws16 hbk hgr hsz
                have hsz4 := hid hsz
                clear hsz
                replace PN := hid (PN.out.grown hgr (fun e => PN.out.ne PT.out (by decide) (by simpa using e)))
                replace OV := hid (OV.out.keptG hgr (fun v hv e => OV.out.ne_blk PT.out ts1 v hv (by simpa using e)))
                replace OH := hid (OH.out.keptG hgr (fun v hv e => OH.out.ne_blk PT.out (by decide) v hv (by simpa using e)))
                replace OB := hid (OB.out.kept PT.out ts1 hgr)
                replace HB := hid (HB.out.grown hgr HB.out.size (fun r e => by cases e; have := HB9.out; have := hszd.out; have := hsz0.out; have := hsz1.out; have := hsz2.out; have := hsz3.out; have := hsz4.out; omega))
                replace HQB := hid (HQB.out.grown hgr HQB.out.size (fun r e => by cases e; have := hszd.out; have := hsz0.out; have := hsz1.out; have := hsz2.out; have := hsz3.out; have := hsz4.out; omega))
                replace PT := hid hbk
                clear hbk hgr
                refine hK.out _ _ ⟨(XPM.out.step HQB.out).cells3.1, (XPM.out.step HQB.out).cells3.2.1, (XPM.out.step HQB.out).cells3.2.2.1, (XPR.out.step HQB.out).cells7.1, (XPR.out.step HQB.out).cells7.2.1, (XPR.out.step HQB.out).cells7.2.2.1, (XPR.out.step HQB.out).cells7.2.2.2.1, (XPR.out.step HQB.out).cells7.2.2.2.2.1, (XPR.out.step HQB.out).cells7.2.2.2.2.2.1, (XPR.out.step HQB.out).cells7.2.2.2.2.2.2.1⟩ (fun hS' => ?_)
                clear hK K hS
                have hS := hS'
                clear hS'
                (try simp only [Act.put, List.setIfInBounds_toArray, List.set_cons_zero, List.set_cons_succ])
                refine wpAnyH_take (i := 17) (v := ?_) (by simp only [List.getElem?_toArray, List.getElem?_cons_succ, List.getElem?_cons_zero]; rfl) (by kernel_rfl) (by kernel_rfl) (by kernel_rfl) (fun _ _ _ h => h) (Or.inl ⟨by rfl, ?_⟩) hS ?_
                rotate_left
                · intro w' hSw; (try dsimp only at hSw); go_split_ands; go_simp; (try with_reducible rfl)
                (try simp only [Act.put, List.setIfInBounds_toArray, List.set_cons_zero, List.set_cons_succ])
                refine wpAnyH_done (by kernel_rfl) ?_ _
                refine NoPanic.normal ?_
                clear hS
                go_wp2_with fail
                go_meet
                exact ⟨_, _, rfl, rfl, rfl, ⟨⟨_, _, _, _, _, _, _, _, _, PN.out, PT.out, OV.out⟩, OH.out, OB.out, HB.out⟩⟩
              exact AllReadyH.nil
            exact AllReadyH.nil
          exact AllReadyH.nil
        refine AllReadyH.cons (by simp only [List.getElem?_toArray, List.getElem?_cons_succ, List.getElem?_cons_zero]; rfl) (fun K hK => ?_) ?_
        · skip
          go_simp
          refine named_alloc ?_
          intro Wa14 hbk hb hsz
          have hsz1 := hid hsz
          replace OL := hid (OL.out.step hb); replace OH := hid (OH.out.step hb); replace OA := hid (OA.out.step hb); replace OB := hid (OB.out.step hb); replace OM := hid (OM.out.step hb); replace PN := hid (PN.out.step hb); replace HB := hid (below_then HB.out hb); replace HQB := hid (below_then HQB.out hb)
          have PT := hid hbk
          clear hb hbk hsz
          refine hK.out _ _ ⟨(XPM.out.step HQB.out).cells3.1, (XPM.out.step HQB.out).cells3.2.1, (XPM.out.step HQB.out).cells3.2.2.1, (XPR.out.step HQB.out).cells7.1, (XPR.out.step HQB.out).cells7.2.1, (XPR.out.step HQB.out).cells7.2.2.1, (XPR.out.step HQB.out).cells7.2.2.2.1, (XPR.out.step HQB.out).cells7.2.2.2.2.1, (XPR.out.step HQB.out).cells7.2.2.2.2.2.1, (XPR.out.step HQB.out).cells7.2.2.2.2.2.2.1⟩ (fun hS' => ?_)
          clear hK K hS
          have hS := hS'
          clear hS'
          (try simp only [Act.put, List.setIfInBounds_toArray, List.set_cons_zero, List.set_cons_succ])
          refine wpAnyH_ready (rs := [8]) (by kernel_rfl) (by simp) ?_
          refine AllReadyH.cons (by simp only [List.getElem?_toArray, List.getElem?_cons_succ, List.getElem?_cons_zero]; rfl) (fun K hK => ?_) ?_
          · skip
            go_simp
            refine (seqplay_any A 12 c B 12 d (List.replicate 12 0, List.replicate 12 true, false) ⟨9, 2, N, 0, 0, [], 0⟩ none 0 0 L j cl es Q p4 cq qs _ OM.out.mem (Sl.nil _ _ _ _) (by omega) (OL.out.sm.mono (Nat.zero_le _) (Nat.le_refl _)) (HVR.out _ OA.out) (by omega) ((XQ.out.below HB.out (Nat.le_refl _)).mono (Nat.le_refl _) HB.out.size) (by omega)).mono ?_
            rintro e ws8 ⟨A8, n8, c8, B8, k8, d8, V8, vn8, vc8, he, om, ov, hb⟩
            have hsz2 := hid (show Wa14.heap.size ≤ ws8.heap.size from hb.size)
            replace OL := hid (OL.out.step hb); replace OH := hid (OH.out.step hb); replace OA := hid (OA.out.step hb); replace OB := hid (OB.out.step hb); replace OM := hid (OM.out.step hb); replace PN := hid (PN.out.step hb); replace PT := hid (PT.out.step hb); replace HB := hid (below_then HB.out hb); replace HQB := hid (below_then HQB.out hb)
            clear hb
            rw [← HM0.out, ← HR0.out, HC.out] at he om ov
            subst he
            dsimp only at ov
            have OV := hid (ov.mono (show w.heap.size ≤ Wa14.heap.size by have := HB9.out; have := hszd.out; have := hsz0.out; have := hsz1.out; omega))
            clear om ov
            go_wp2_with fail
            refine hK.out _ _ ⟨(XPM.out.step HQB.out).cells3.1, (XPM.out.step HQB.out).cells3.2.1, (XPM.out.step HQB.out).cells3.2.2.1, (XPR.out.step HQB.out).cells7.1, (XPR.out.step HQB.out).cells7.2.1, (XPR.out.step HQB.out).cells7.2.2.1, (XPR.out.step HQB.out).cells7.2.2.2.1, (XPR.out.step HQB.out).cells7.2.2.2.2.1, (XPR.out.step HQB.out).cells7.2.2.2.2.2.1, (XPR.out.step HQB.out).cells7.2.2.2.2.2.2.1⟩ (fun hS' => ?_)
            clear hK K hS
            have hS := hS'
            clear hS'
            (try simp only [Act.put, List.setIfInBounds_toArray, List.set_cons_zero, List.set_cons_succ])
            refine wpAnyH_take (i := 9) (v := ?_) (by simp only [List.getElem?_toArray, List.getElem?_cons_succ, List.getElem?_cons_zero]; rfl) (by kernel_rfl) (by kernel_rfl) (by kernel_rfl) (fun _ _ _ h => h) (Or.inl ⟨by rfl, ?_⟩) hS ?_
            rotate_left
            · intro w' hSw; (try dsimp only at hSw); go_split_ands; go_simp; (try with_reducible rfl)
            (try simp only [Act.put, List.setIfInBounds_toArray, List.set_cons_zero, List.set_cons_succ])
            refine wpAnyH_take (i := 10) (v := ?_) (by simp only [List.getElem?_toArray, List.getElem?_cons_succ, List.getElem?_cons_zero]; rfl) (by kernel_rfl) (by kernel_rfl) (by kernel_rfl) (fun _ _ _ h => h) (Or.inl ⟨by rfl, ?_⟩) hS ?_
            rotate_left
            · intro w' hSw; (try dsimp only at hSw); go_split_ands; go_simp; (try with_reducible rfl)
            (try simp only [Act.put, List.setIfInBounds_toArray, List.set_cons_zero, List.set_cons_succ])
            refine wpAnyH_take (i := 11) (v := ?_) (by simp only [List.getElem?_toArray, List.getElem?_cons_succ, List.getElem?_cons_zero]; rfl) (by kernel_rfl) (by kernel_rfl) (by kernel_rfl) (fun _ _ _ h => h) (Or.inl ⟨by rfl, ?_⟩) hS ?_
            rotate_left
            · intro w' hSw; (try dsimp only at hSw); go_split_ands; go_simp; (try with_reducible rfl)
            (try simp only [Act.put, List.setIfInBounds_toArray, List.set_cons_zero, List.set_cons_succ])
            refine wpAnyH_take (i := 12) (v := ?_) (by simp only [List.getElem?_toArray, List.getElem?_cons_succ, List.getElem?_cons_zero]; rfl) (by kernel_rfl) (by kernel_rfl) (by kernel_rfl) (fun _ _ _ h => h) (Or.inl ⟨by rfl, ?_⟩) hS ?_
            rotate_left
            · intro w' hSw; (try dsimp only at hSw); go_split_ands; go_simp; (try with_reducible rfl)
            (try simp only [Act.put, List.setIfInBounds_toArray, List.set_cons_zero, List.set_cons_succ])
            refine wpAnyH_ready (rs := [15]) (by kernel_rfl) (by simp) ?_
            refine AllReadyH.cons (by simp only [List.getElem?_toArray, List.getElem?_cons_succ, List.getElem?_cons_zero]; rfl) (fun K hK => ?_) ?_
            · skip
              obtain ⟨y00, y01, y02, yf0⟩ := PN.out.cells3
              go_simp
              clear y00 y01 y02 yf0
              refine named_store3 PN.out ?_
              intro Ws15 hbk hgr hsz
              have hsz3 := hid hsz
              clear hsz
              replace PT := hid (PT.out.grown hgr (fun e => PN.out.ne PT.out (by decide) (by simpa using e.symm)))
              replace OV := hid (OV.out.keptG hgr (fun v hv e => OV.out.ne_blk PN.out tm1 v hv (by simpa using e)))
              replace OH := hid (OH.out.keptG hgr (fun v hv e => OH.out.ne_blk PN.out (by decide) v hv (by simpa using e)))
              replace OB := hid (OB.out.kept PN.out tm1 hgr)
              replace HB := hid (HB.out.grown hgr HB.out.size (fun r e => by cases e; have := HB9.out; have := hszd.out; have := hsz0.out; have := hsz1.out; have := hsz2.out; have := hsz3.out; omega))
              replace HQB := hid (HQB.out.grown hgr HQB.out.size (fun r e => by cases e; have := hszd.out; have := hsz0.out; have := hsz1.out; have := hsz2.out; have := hsz3.out; omega))
              replace PN := hid hbk
              clear hbk hgr
              refine hK.out _ _ ⟨(XPM.out.step HQB.out).cells3.1, (XPM.out.step HQB.out).cells3.2.1, (XPM.out.step HQB.out).cells3.2.2.1, (XPR.out.step HQB.out).cells7.1, (XPR.out.step HQB.out).cells7.2.1, (XPR.out.step HQB.out).cells7.2.2.1, (XPR.out.step HQB.out).cells7.2.2.2.1, (XPR.out.step HQB.out).cells7.2.2.2.2.1, (XPR.out.step HQB.out).cells7.2.2.2.2.2.1, (XPR.out.step HQB.out).cells7.2.2.2.2.2.2.1⟩ (fun hS' => ?_)
              clear hK K hS
              have hS := hS'
              clear hS'
              (try simp only [Act.put, List.setIfInBounds_toArray, List.set_cons_zero, List.set_cons_succ])
              refine wpAnyH_ready (rs := [16]) (by kernel_rfl) (by simp) ?_
              refine AllReadyH.cons (by simp only [List.getElem?_toArray, List.getElem?_cons_succ, List.getElem?_cons_zero]; rfl) (fun K hK => ?_) ?_
              · skip
                obtain ⟨y00, y01, y02, y03, y04, y05, y06, yf0⟩ := PT.out.cells7
                go_simp
                clear y00 y01 y02 y03 y04 y05 y06 yf0
                refine named_store_7_7_0 PT.out ?_
                intro Ws16 hbk hgr hsz
                have hsz4 := hid hsz
                clear hsz
                replace PN := hid (PN.out.grown hgr (fun e => PN.out.ne PT.out (by decide) (by simpa using e)))
                replace OV := hid (OV.out.keptG hgr (fun v hv e => OV.out.ne_blk PT.out ts1 v hv (by simpa using e)))
                replace OH := hid (OH.out.keptG hgr (fun v hv e => OH.out.ne_blk PT.out (by decide) v hv (by simpa using e)))
                replace OB := hid (OB.out.kept PT.out ts1 hgr)
                replace HB := hid (HB.out.grown hgr HB.out.size (fun r e => by cases e; have := HB9.out; have := hszd.out; have := hsz0.out; have := hsz1.out; have := hsz2.out; have := hsz3.out; have := hsz4.out; omega))
                replace HQB := hid (HQB.out.grown hgr HQB.out.size (fun r e => by cases e; have := hszd.out; have := hsz0.out; have := hsz1.out; have := hsz2.out; have := hsz3.out; have := hsz4.out; omega))
                replace PT := hid hbk
                clear hbk hgr
                refine hK.out _ _ ⟨(XPM.out.step HQB.out).cells3.1, (XPM.out.step HQB.out).cells3.2.1, (XPM.out.step HQB.out).cells3.2.2.1, (XPR.out.step HQB.out).cells7.1, (XPR.out.step HQB.out).cells7.2.1, (XPR.out.step HQB.out).cells7.2.2.1, (XPR.out.step HQB.out).cells7.2.2.2.1, (XPR.out.step HQB.out).cells7.2.2.2.2.1, (XPR.out.step HQB.out).cells7.2.2.2.2.2.1, (XPR.out.step HQB.out).cells7.2.2.2.2.2.2.1⟩ (fun hS' => ?_)
                clear hK K hS
                have hS := hS'
                clear hS'
                (try simp only [Act.put, List.setIfInBounds_toArray, List.set_cons_zero, List.set_cons_succ])
                refine wpAnyH_take (i := 17) (v := ?_) (by simp only [List.getElem?_toArray, List.getElem?_cons_succ, List.getElem?_cons_zero]; rfl) (by kernel_rfl) (by kernel_rfl) (by kernel_rfl) (fun _ _ _ h => h) (Or.inl ⟨by rfl, ?_⟩) hS ?_
                rotate_left
                · intro w' hSw; (try dsimp only at hSw); go_split_ands; go_simp; (try with_reducible rfl)
                (try simp only [Act.put, List.setIfInBounds_toArray, List.set_cons_zero, List.set_cons_succ])
                refine wpAnyH_done (by kernel_rfl) ?_ _
                refine NoPanic.normal ?_
                clear hS
                go_wp2_with fail
                go_meet
                exact ⟨_, _, rfl, rfl, rfl, ⟨⟨_, _, _, _, _, _, _, _, _, PN.out, PT.out, OV.out⟩, OH.out, OB.out, HB.out⟩⟩
              exact AllReadyH.nil
            exact AllReadyH.nil
          exact AllReadyH.nil
        exact AllReadyH.nil
      refine AllReadyH.cons (by simp only [List.getElem?_toArray, List.getElem?_cons_succ, List.getElem?_cons_zero]; rfl) (fun K hK => ?_) ?_
      · skip
        go_simp
        refine named_alloc ?_
        intro Wa14 hbk hb hsz
        have hsz0 := hid hsz
        replace OL := hid (OL.out.step hb); replace OH := hid (OH.out.step hb); replace OA := hid (OA.out.step hb); replace OB := hid (OB.out.step hb); replace OM := hid (OM.out.step hb); replace HB := hid (below_then HB.out hb); replace HQB := hid (below_then HQB.out hb)
        have PT := hid hbk
        clear hb hbk hsz
        refine hK.out _ _ ⟨(XPM.out.step HQB.out).cells3.1, (XPM.out.step HQB.out).cells3.2.1, (XPM.out.step HQB.out).cells3.2.2.1, (XPR.out.step HQB.out).cells7.1, (XPR.out.step HQB.out).cells7.2.1, (XPR.out.step HQB.out).cells7.2.2.1, (XPR.out.step HQB.out).cells7.2.2.2.1, (XPR.out.step HQB.out).cells7.2.2.2.2.1, (XPR.out.step HQB.out).cells7.2.2.2.2.2.1, (XPR.out.step HQB.out).cells7.2.2.2.2.2.2.1⟩ (fun hS' => ?_)
        clear hK K hS
        have hS := hS'
        clear hS'
        (try simp only [Act.put, List.setIfInBounds_toArray, List.set_cons_zero, List.set_cons_succ])
        refine wpAnyH_ready (rs := [8, 13]) (by kernel_rfl) (by simp) ?_
        refine AllReadyH.cons (by simp only [List.getElem?_toArray, List.getElem?_cons_succ, List.getElem?_cons_zero]; rfl) (fun K hK => ?_) ?_
        · skip
          go_simp
          refine (seqplay_any A 12 c B 12 d (List.replicate 12 0, List.replicate 12 true, false) ⟨9, 2, N, 0, 0, [], 0⟩ none 0 0 L j cl es Q p4 cq qs _ OM.out.mem (Sl.nil _ _ _ _) (by omega) (OL.out.sm.mono (Nat.zero_le _) (Nat.le_refl _)) (HVR.out _ OA.out) (by omega) ((XQ.out.below HB.out (Nat.le_refl _)).mono (Nat.le_refl _) HB.out.size) (by omega)).mono ?_
          rintro e ws8 ⟨A8, n8, c8, B8, k8, d8, V8, vn8, vc8, he, om, ov, hb⟩
          have hsz1 := hid (show Wa14.heap.size ≤ ws8.heap.size from hb.size)
          replace OL := hid (OL.out.step hb); replace OH := hid (OH.out.step hb); replace OA := hid (OA.out.step hb); replace OB := hid (OB.out.step hb); replace OM := hid (OM.out.step hb); replace PT := hid (PT.out.step hb); replace HB := hid (below_then HB.out hb); replace HQB := hid (below_then HQB.out hb)
          clear hb
          rw [← HM0.out, ← HR0.out, HC.out] at he om ov
          subst he
          dsimp only at ov
          have OV := hid (ov.mono (show w.heap.size ≤ Wa14.heap.size by have := HB9.out; have := hszd.out; have := hsz0.out; omega))
          clear om ov
          go_wp2_with fail
          refine hK.out _ _ ⟨(XPM.out.step HQB.out).cells3.1, (XPM.out.step HQB.out).cells3.2.1, (XPM.out.step HQB.out).cells3.2.2.1, (XPR.out.step HQB.out).cells7.1, (XPR.out.step HQB.out).cells7.2.1, (XPR.out.step HQB.out).cells7.2.2.1, (XPR.out.step HQB.out).cells7.2.2.2.1, (XPR.out.step HQB.out).cells7.2.2.2.2.1, (XPR.out.step HQB.out).cells7.2.2.2.2.2.1, (XPR.out.step HQB.out).cells7.2.2.2.2.2.2.1⟩ (fun hS' => ?_)
          clear hK K hS
          have hS := hS'
          clear hS'
          (try simp only [Act.put, List.setIfInBounds_toArray, List.set_cons_zero, List.set_cons_succ])
          refine wpAnyH_take (i := 9) (v := ?_) (by simp only [List.getElem?_toArray, List.getElem?_cons_succ, List.getElem?_cons_zero]; rfl) (by kernel_rfl) (by kernel_rfl) (by kernel_rfl) (fun _ _ _ h => h) (Or.inl ⟨by rfl, ?_⟩) hS ?_
          rotate_left
          · intro w' hSw; (try dsimp only at hSw); go_split_ands; go_simp; (try with_reducible rfl)
          (try simp only [Act.put, List.setIfInBounds_toArray, List.set_cons_zero, List.set_cons_succ])
          refine wpAnyH_take (i := 10) (v := ?_) (by simp only [List.getElem?_toArray, List.getElem?_cons_succ, List.getElem?_cons_zero]; rfl) (by kernel_rfl) (by kernel_rfl) (by kernel_rfl) (fun _ _ _ h => h) (Or.inl ⟨by rfl, ?_⟩) hS ?_
          rotate_left
          · intro w' hSw; (try dsimp only at hSw); go_split_ands; go_simp; (try with_reducible rfl)
          (try simp only [Act.put, List.setIfInBounds_toArray, List.set_cons_zero, List.set_cons_succ])
          refine wpAnyH_take (i := 11) (v := ?_) (by simp only [List.getElem?_toArray, List.getElem?_cons_succ, List.getElem?_cons_zero]; rfl) (by kernel_rfl) (by kernel_rfl) (by kernel_rfl) (fun _ _ _ h => h) (Or.inl ⟨by rfl, ?_⟩) hS ?_
          rotate_left
          · intro w' hSw; (try dsimp only at hSw); go_split_ands; go_simp; (try with_reducible rfl)
          (try simp only [Act.put, List.setIfInBounds_toArray, List.set_cons_zero, List.set_cons_succ])
          refine wpAnyH_take (i := 12) (v := ?_) (by simp only [List.getElem?_toArray, List.getElem?_cons_succ, List.getElem?_cons_zero]; rfl) (by kernel_rfl) (by kernel_rfl) (by kernel_rfl) (fun _ _ _ h => h) (Or.inl ⟨by rfl, ?_⟩) hS ?_
          rotate_left
          · intro w' hSw; (try dsimp only at hSw); go_split_ands; go_simp; (try with_reducible rfl)
          (try simp only [Act.put, List.setIfInBounds_toArray, List.set_cons_zero, List.set_cons_succ])
          refine wpAnyH_ready (rs := [13]) (by kernel_rfl) (by simp) ?_
          refine AllReadyH.cons (by simp only [List.getElem?_toArray, List.getElem?_cons_succ, List.getElem?_cons_zero]; rfl) (fun K hK => ?_) ?_
          · skip
            go_simp
            refine named_alloc ?_
            intro Wa13 hbk hb hsz
            have hsz2 := hid hsz
            replace OL := hid (OL.out.step hb); replace OH := hid (OH.out.step hb); replace OA := hid (OA.out.step hb); replace OB := hid (OB.out.step hb); replace OM := hid (OM.out.step hb); replace PT := hid (PT.out.step hb); replace OV := hid (OV.out.step hb); replace HB := hid (below_then HB.out hb); replace HQB := hid (below_then HQB.out hb)
            have PN := hid hbk
            clear hb hbk hsz
            refine hK.out _ _ ⟨(XPM.out.step HQB.out).cells3.1, (XPM.out.step HQB.out).cells3.2.1, (XPM.out.step HQB.out).cells3.2.2.1, (XPR.out.step HQB.out).cells7.1, (XPR.out.step HQB.out).cells7.2.1, (XPR.out.step HQB.out).cells7.2.2.1, (XPR.out.step HQB.out).cells7.2.2.2.1, (XPR.out.step HQB.out).cells7.2.2.2.2.1, (XPR.out.step HQB.out).cells7.2.2.2.2.2.1, (XPR.out.step HQB.out).cells7.2.2.2.2.2.2.1⟩ (fun hS' => ?_)
            clear hK K hS
            have hS := hS'
            clear hS'
            (try simp only [Act.put, List.setIfInBounds_toArray, List.set_cons_zero, List.set_cons_succ])
            refine wpAnyH_ready (rs := [15]) (by kernel_rfl) (by simp) ?_
            refine AllReadyH.cons (by simp only [List.getElem?_toArray, List.getElem?_cons_succ, List.getElem?_cons_zero]; rfl) (fun K hK => ?_) ?_
            · skip
              obtain ⟨y00, y01, y02, yf0⟩ := PN.out.cells3
              go_simp
              clear y00 y01 y02 yf0
              refine named_store3 PN.out ?_
              intro Ws15 hbk hgr hsz
              have hsz3 := hid hsz
              clear hsz
              replace PT := hid (PT.out.grown hgr (fun e => PN.out.ne PT.out (by decide) (by simpa using e.symm)))
              replace OV := hid (OV.out.keptG hgr (fun v hv e => OV.out.ne_blk PN.out tm1 v hv (by simpa using e)))
              replace OH := hid (OH.out.keptG hgr (fun v hv e => OH.out.ne_blk PN.out (by decide) v hv (by simpa using e)))
              replace OB := hid (OB.out.kept PN.out tm1 hgr)
              replace HB := hid (HB.out.grown hgr HB.out.size (fun r e => by cases e; have := HB9.out; have := hszd.out; have := hsz0.out; have := hsz1.out; have := hsz2.out; have := hsz3.out; omega))
              replace HQB := hid (HQB.out.grown hgr HQB.out.size (fun r e => by cases e; have := hszd.out; have := hsz0.out; have := hsz1.out; have := hsz2.out; have := hsz3.out; omega))
              replace PN := hid hbk
              clear hbk hgr
              refine hK.out _ _ ⟨(XPM.out.step HQB.out).cells3.1, (XPM.out.step HQB.out).cells3.2.1, (XPM.out.step HQB.out).cells3.2.2.1, (XPR.out.step HQB.out).cells7.1, (XPR.out.step HQB.out).cells7.2.1, (XPR.out.step HQB.out).cells7.2.2.1, (XPR.out.step HQB.out).cells7.2.2.2.1, (XPR.out.step HQB.out).cells7.2.2.2.2.1, (XPR.out.step HQB.out).cells7.2.2.2.2.2.1, (XPR.out.step HQB.out).cells7.2.2.2.2.2.2.1⟩ (fun hS' => ?_)
              clear hK K hS
              have hS := hS'
              clear hS'
              (try simp only [Act.put, List.setIfInBounds_toArray, List.set_cons_zero, List.set_cons_succ])
              refine wpAnyH_ready (rs := [16]) (by kernel_rfl) (by simp) ?_
              refine AllReadyH.cons (by simp only [List.getElem?_toArray, List.getElem?_cons_succ, List.getElem?_cons_zero]; rfl) (fun K hK => ?_) ?_
              · skip
                obtain ⟨y00, y01, y02, y03, y04, y05, y06, yf0⟩ := PT.out.cells7
                go_simp
                clear y00 y01 y02 y03 y04 y05 y06 yf0
                refine named_store_7_7_0 PT.out ?_
                intro Ws16 hbk hgr hsz
                have hsz4 := hid hsz
                clear hsz
                replace PN := hid (PN.out.grown hgr (fun e => PN.out.ne PT.out (by decide) (by simpa using e)))
                replace OV := hid (OV.out.keptG hgr (fun v hv e => OV.out.ne_blk PT.out ts1 v hv (by simpa using e)))
                replace OH := hid (OH.out.keptG hgr (fun v hv e => OH.out.ne_blk PT.out (by decide) v hv (by simpa using e)))
                replace OB := hid (OB.out.kept PT.out ts1 hgr)
                replace HB := hid (HB.out.grown hgr HB.out.size (fun r e => by cases e; have := HB9.out; have := hszd.out; have := hsz0.out; have := hsz1.out; have := hsz2.out; have := hsz3.out; have := hsz4.out; omega))
                replace HQB := hid (HQB.out.grown hgr HQB.out.size (fun r e => by cases e; have := hszd.out; have := hsz0.out; have := hsz1.out; have := hsz2.out; have := hsz3.out; have := hsz4.out; omega))
                replace PT := hid hbk
                clear hbk hgr
                refine hK.out _ _ ⟨(XPM.out.step HQB.out).cells3.1, (XPM.out.step HQB.out).cells3.2.1, (XPM.out.step HQB.out).cells3.2.2.1, (XPR.out.step HQB.out).cells7.1, (XPR.out.step HQB.out).cells7.2.1, (XPR.out.step HQB.out).cells7.2.2.1, (XPR.out.step HQB.out).cells7.2.2.2.1, (XPR.out.step HQB.out).cells7.2.2.2.2.1, (XPR.out.step HQB.out).cells7.2.2.2.2.2.1, (XPR.out.step HQB.out).cells7.2.2.2.2.2.2.1⟩ (fun hS' => ?_)
                clear hK K hS
                have hS := hS'
                clear hS'
                (try simp only [Act.put, List.setIfInBounds_toArray, List.set_cons_zero, List.set_cons_succ])
                refine wpAnyH_take (i := 17) (v := ?_) (by simp only [List.getElem?_toArray, List.getElem?_cons_succ, List.getElem?_cons_zero]; rfl) (by kernel_rfl) (by kernel_rfl) (by kernel_rfl) (fun _ _ _ h => h) (Or.inl ⟨by rfl, ?_⟩) hS ?_
                rotate_left
                · intro w' hSw; (try dsimp only at hSw); go_split_ands; go_simp; (try with_reducible rfl)
                (try simp only [Act.put, List.setIfInBounds_toArray, List.set_cons_zero, List.set_cons_succ])
                refine wpAnyH_done (by kernel_rfl) ?_ _
                refine NoPanic.normal ?_
                clear hS
                go_wp2_with fail
                go_meet
                exact ⟨_, _, rfl, rfl, rfl, ⟨⟨_, _, _, _, _, _, _, _, _, PN.out, PT.out, OV.out⟩, OH.out, OB.out, HB.out⟩⟩
              exact AllReadyH.nil
            exact AllReadyH.nil
          exact AllReadyH.nil
        refine AllReadyH.cons (by simp only [List.getElem?_toArray, List.getElem?_cons_succ, List.getElem?_cons_zero]; rfl) (fun K hK => ?_) ?_
        · skip
          go_simp
          refine named_alloc ?_
          intro Wa13 hbk hb hsz
          have hsz1 := hid hsz
          replace OL := hid (OL.out.step hb); replace OH := hid (OH.out.step hb); replace OA := hid (OA.out.step hb); replace OB := hid (OB.out.step hb); replace OM := hid (OM.out.step hb); replace PT := hid (PT.out.step hb); replace HB := hid (below_then HB.out hb); replace HQB := hid (below_then HQB.out hb)
          have PN := hid hbk
          clear hb hbk hsz
          refine hK.out _ _ ⟨(XPM.out.step HQB.out).cells3.1, (XPM.out.step HQB.out).cells3.2.1, (XPM.out.step HQB.out).cells3.2.2.1, (XPR.out.step HQB.out).cells7.1, (XPR.out.step HQB.out).cells7.2.1, (XPR.out.step HQB.out).cells7.2.2.1, (XPR.out.step HQB.out).cells7.2.2.2.1, (XPR.out.step HQB.out).cells7.2.2.2.2.1, (XPR.out.step HQB.out).cells7.2.2.2.2.2.1, (XPR.out.step HQB.out).cells7.2.2.2.2.2.2.1⟩ (fun hS' => ?_)
          clear hK K hS
          have hS := hS'
          clear hS'
          (try simp only [Act.put, List.setIfInBounds_toArray, List.set_cons_zero, List.set_cons_succ])
          refine wpAnyH_ready (rs := [8]) (by kernel_rfl) (by simp) ?_
          refine AllReadyH.cons (by simp only [List.getElem?_toArray, List.getElem?_cons_succ, List.getElem?_cons_zero]; rfl) (fun K hK => ?_) ?_
          · skip
            go_simp
            refine (seqplay_any A 12 c B 12 d (List.replicate 12 0, List.replicate 12 true, false) ⟨9, 2, N, 0, 0, [], 0⟩ none 0 0 L j cl es Q p4 cq qs _ OM.out.mem (Sl.nil _ _ _ _) (by omega) (OL.out.sm.mono (Nat.zero_le _) (Nat.le_refl _)) (HVR.out _ OA.out) (by omega) ((XQ.out.below HB.out (Nat.le_refl _)).mono (Nat.le_refl _) HB.out.size) (by omega)).mono ?_
            rintro e ws8 ⟨A8, n8, c8, B8, k8, d8, V8, vn8, vc8, he, om, ov, hb⟩
            have hsz2 := hid (show Wa13.heap.size ≤ ws8.heap.size from hb.size)
            replace OL := hid (OL.out.step hb); replace OH := hid (OH.out.step hb); replace OA := hid (OA.out.step hb); replace OB := hid (OB.out.step hb); replace OM := hid (OM.out.step hb); replace PT := hid (PT.out.step hb); replace PN := hid (PN.out.step hb); replace HB := hid (below_then HB.out hb); replace HQB := hid (below_then HQB.out hb)
            clear hb
            rw [← HM0.out, ← HR0.out, HC.out] at he om ov
            subst he
            dsimp only at ov
            have OV := hid (ov.mono (show w.heap.size ≤ Wa13.heap.size by have := HB9.out; have := hszd.out; have := hsz0.out; have := hsz1.out; omega))
            clear om ov
            go_wp2_with fail
            refine hK.out _ _ ⟨(XPM.out.step HQB.out).cells3.1, (XPM.out.step HQB.out).cells3.2.1, (XPM.out.step HQB.out).cells3.2.2.1, (XPR.out.step HQB.out).cells7.1, (XPR.out.step HQB.out).cells7.2.1, (XPR.out.step HQB.out).cells7.2.2.1, (XPR.out.step HQB.out).cells7.2.2.2.1, (XPR.out.step HQB.out).cells7.2.2.2.2.1, (XPR.out.step HQB.out).cells7.2.2.2.2.2.1, (XPR.out.step HQB.out).cells7.2.2.2.2.2.2.1⟩ (fun hS' => ?_)
            clear hK K hS
            have hS := hS'
            clear hS'
            (try simp only [Act.put, List.setIfInBounds_toArray, List.set_cons_zero, List.set_cons_succ])
            refine wpAnyH_take (i := 9) (v := ?_) (by simp only [List.getElem?_toArray, List.getElem?_cons_succ, List.getElem?_cons_zero]; rfl) (by kernel_rfl) (by kernel_rfl) (by kernel_rfl) (fun _ _ _ h => h) (Or.inl ⟨by rfl, ?_⟩) hS ?_
            rotate_left
            · intro w' hSw; (try dsimp only at hSw); go_split_ands; go_simp; (try with_reducible rfl)
            (try simp only [Act.put, List.setIfInBounds_toArray, List.set_cons_zero, List.set_cons_succ])
            refine wpAnyH_take (i := 10) (v := ?_) (by simp only [List.getElem?_toArray, List.getElem?_cons_succ, List.getElem?_cons_zero]; rfl) (by kernel_rfl) (by kernel_rfl) (by kernel_rfl) (fun _ _ _ h => h) (Or.inl ⟨by rfl, ?_⟩) hS ?_
            rotate_left
            · intro w' hSw; (try dsimp only at hSw); go_split_ands; go_simp; (try with_reducible rfl)
            (try simp only [Act.put, List.setIfInBounds_toArray, List.set_cons_zero, List.set_cons_succ])
            refine wpAnyH_take (i := 11) (v := ?_) (by simp only [List.getElem?_toArray, List.getElem?_cons_succ, List.getElem?_cons_zero]; rfl) (by kernel_rfl) (by kernel_rfl) (by kernel_rfl) (fun _ _ _ h => h) (Or.inl ⟨by rfl, ?_⟩) hS ?_
            rotate_left
            · intro w' hSw; (try dsimp only at hSw); go_split_ands; go_simp; (try with_reducible rfl)
            (try simp only [Act.put, List.setIfInBounds_toArray, List.set_cons_zero, List.set_cons_succ])
            refine wpAnyH_take (i := 12) (v := ?_) (by simp only [List.getElem?_toArray, List.getElem?_cons_succ, List.getElem?_cons_zero]; rfl) (by kernel_rfl) (by kernel_rfl) (by kernel_rfl) (fun _ _ _ h => h) (Or.inl ⟨by rfl, ?_⟩) hS ?_
            rotate_left
            · intro w' hSw; (try dsimp only at hSw); go_split_ands; go_simp; (try with_reducible rfl)
            (try simp only [Act.put, List.setIfInBounds_toArray, List.set_cons_zero, List.set_cons_succ])
            refine wpAnyH_ready (rs := [15]) (by kernel_rfl) (by simp) ?_
            refine AllReadyH.cons (by simp only [List.getElem?_toArray, List.getElem?_cons_succ, List.getElem?_cons_zero]; rfl) (fun K hK => ?_) ?_
            · skip
              obtain ⟨y00, y01, y02, yf0⟩ := PN.out.cells3
              go_simp
              clear y00 y01 y02 yf0
              refine named_store3 PN.out ?_
              intro Ws15 hbk hgr hsz
              have hsz3 := hid hsz
              clear hsz
              replace PT := hid (PT.out.grown hgr (fun e => PN.out.ne PT.out (by decide) (by simpa using e.symm)))
              replace OV := hid (OV.out.keptG hgr (fun v hv e => OV.out.ne_blk PN.out tm1 v hv (by simpa using e)))
              replace OH := hid (OH.out.keptG hgr (fun v hv e => OH.out.ne_blk PN.out (by decide) v hv (by simpa using e)))
              replace OB := hid (OB.out.kept PN.out tm1 hgr)
              replace HB := hid (HB.out.grown hgr HB.out.size (fun r e => by cases e; have := HB9.out; have := hszd.out; have := hsz0.out; have := hsz1.out; have := hsz2.out; have := hsz3.out; omega))
              replace HQB := hid (HQB.out.grown hgr HQB.out.size (fun r e => by cases e; have := hszd.out; have := hsz0.out; have := hsz1.out; have := hsz2.out; have := hsz3.out; omega))
              replace PN := hid hbk
              clear hbk hgr
              refine hK.out _ _ ⟨(XPM.out.step HQB.out).cells3.1, (XPM.out.step HQB.out).cells3.2.1, (XPM.out.step HQB.out).cells3.2.2.1, (XPR.out.step HQB.out).cells7.1, (XPR.out.step HQB.out).cells7.2.1, (XPR.out.step HQB.out).cells7.2.2.1, (XPR.out.step HQB.out).cells7.2.2.2.1, (XPR.out.step HQB.out).cells7.2.2.2.2.1, (XPR.out.step HQB.out).cells7.2.2.2.2.2.1, (XPR.out.step HQB.out).cells7.2.2.2.2.2.2.1⟩ (fun hS' => ?_)
              clear hK K hS
              have hS := hS'
              clear hS'
              (try simp only [Act.put, List.setIfInBounds_toArray, List.set_cons_zero, List.set_cons_succ])
              refine wpAnyH_ready (rs := [16]) (by kernel_rfl) (by simp) ?_
              refine AllReadyH.cons (by simp only [List.getElem?_toArray, List.getElem?_cons_succ, List.getElem?_cons_zero]; rfl) (fun K hK => ?_) ?_
              · skip
                obtain ⟨y00, y01, y02, y03, y04, y05, y06, yf0⟩ := PT.out.cells7
                go_simp
                clear y00 y01 y02 y03 y04 y05 y06 yf0
                refine named_store_7_7_0 PT.out ?_
                intro Ws16 hbk hgr hsz
                have hsz4 := hid hsz
                clear hsz
                replace PN := hid (PN.out.grown hgr (fun e => PN.out.ne PT.out (by decide) (by simpa using e)))
                replace OV := hid (OV.out.keptG hgr (fun v hv e => OV.out.ne_blk PT.out ts1 v hv (by simpa using e)))
                replace OH := hid (OH.out.keptG hgr (fun v hv e => OH.out.ne_blk PT.out (by decide) v hv (by simpa using e)))
                replace OB := hid (OB.out.kept PT.out ts1 hgr)
                replace HB := hid (HB.out.grown hgr HB.out.size (fun r e => by cases e; have := HB9.out; have := hszd.out; have := hsz0.out; have := hsz1.out; have := hsz2.out; have := hsz3.out; have := hsz4.out; omega))
                replace HQB := hid (HQB.out.grown hgr HQB.out.size (fun r e => by cases e; have := hszd.out; have := hsz0.out; have := hsz1.out; have := hsz2.out; have := hsz3.out; have := hsz4.out; omega))
                replace PT := hid hbk
                clear hbk hgr
                refine hK.out _ _ ⟨(XPM.out.step HQB.out).cells3.1, (XPM.out.step HQB.out).cells3.2.1, (XPM.out.step HQB.out).cells3.2.2.1, (XPR.out.step HQB.out).cells7.1, (XPR.out.step HQB.out).cells7.2.1, (XPR.out.step HQB.out).cells7.2.2.1, (XPR.out.step HQB.out).cells7.2.2.2.1, (XPR.out.step HQB.out).cells7.2.2.2.2.1, (XPR.out.step HQB.out).cells7.2.2.2.2.2.1, (XPR.out.step HQB.out).cells7.2.2.2.2.2.2.1⟩ (fun hS' => ?_)
                clear hK K hS
                have hS := hS'
                clear hS'
                (try simp only [Act.put, List.setIfInBounds_toArray, List.set_cons_zero, List.set_cons_succ])
                refine wpAnyH_take (i := 17) (v := ?_) (by simp only [List.getElem?_toArray, List.getElem?_cons_succ, List.getElem?_cons_zero]; rfl) (by kernel_rfl) (by kernel_rfl) (by kernel_rfl) (fun _ _ _ h => h) (Or.inl ⟨by rfl, ?_⟩) hS ?_
                rotate_left
                · intro w' hSw; (try dsimp only at hSw); go_split_ands; go_simp; (try with_reducible rfl)
                (try simp only [Act.put, List.setIfInBounds_toArray, List.set_cons_zero, List.set_cons_succ])
                refine wpAnyH_done (by kernel_rfl) ?_ _
                refine NoPanic.normal ?_
                clear hS
                go_wp2_with fail
                go_meet
                exact ⟨_, _, rfl, rfl, rfl, ⟨⟨_, _, _, _, _, _, _, _, _, PN.out, PT.out, OV.out⟩, OH.out, OB.out, HB.out⟩⟩
              exact AllReadyH.nil
            exact AllReadyH.nil
          exact AllReadyH.nil
        exact AllReadyH.nil
      exact AllReadyH.nil
    case rest =>
      clear OL OH OA OB PM OM PR HB HQB HB9 HVR HC
      obtain ⟨g7, g8, rfl, rfl, rfl, hI⟩ := hcut
      rename World => W10
      obtain ⟨⟨A8, n8, c8, B8, k8, d8, V8, vn8, vc8, h1, h2, h3⟩, h4, h5, h6⟩ := hI
      have PN := hid h1; have PT := hid h2; have OV := hid h3; have OH := hid h4; have OB := hid h5; have HB := hid h6
      clear h1 h2 h3 h4 h5 h6
      have hf := HEND.out.1
      rw [hf] at PN
      have e1 : decide ((j : Int) < r9.tr) = false := decide_eq_false (by have := HEND.out.2.1; omega)
      have e2 : (r9.ph == 5) = false := by have := HEND.out.2.2.1; simpa using this
      clear hf hmm hmm2 hmc1 hmc0
      by_cases h4 : r9.ph = 4
      rotate_left
      · have e3 : (r9.ph != 4) = true := by simpa using h4
        have e4 : (r9.ph == 4) = false := by simpa using h4
        obtain ⟨y00, y01, y02, yf0⟩ := PN.out.cells3
        obtain ⟨y10, y11, y12, y13, y14, y15, y16, yf1⟩ := PT.out.cells7
        go_wp2
        go_ret
        exact ⟨rfl, HB.out⟩
      have hex := HEND.out.2.2.2 h4
      obtain ⟨i, hi, hvs⟩ := hex
      obtain ⟨x, hx, hx2⟩ := HE6.out i hi
      have hfv := hid (show 0 ≤ fVl r9.vs hs from fVl_some _ _ ⟨x, hx, hx2.trans hvs.symm⟩)
      have hvn := hid (show vn8 ≤ 1000000 by
        have h := OV.out.len
        have hl := (sqV_ok (Nw := j) (rs := rs) hN1 hN3 hj4 HRO.out).len i hi
        rw [hvs, hl] at h; omega)
      have H4 := hid h4
      clear hvs hx hx2
      have e3 : (r9.ph != 4) = false := by simpa using h4
      have e4 : (r9.ph == 4) = true := by simpa using h4
      clear h4
      obtain ⟨y00, y01, y02, yf0⟩ := PN.out.cells3
      obtain ⟨y10, y11, y12, y13, y14, y15, y16, yf1⟩ := PT.out.cells7
      go_wp2_with fail
      clear y00 y01 y02 yf0 y10 y11 y12 y13 y14 y15 y16 yf1
      refine (anywh_any H (j + 1) ch 0 w.heap.size hs g8 r9 V8 vn8 vc8 W10 (OH.out.sl.mono (Nat.zero_le _) (Nat.le_refl _)) OB.out (by omega) (fun x hx => by rw [HE7.out x hx]; omega) PT.out (OV.out.sl.mono (Nat.zero_le _) (Nat.le_refl _)) hvn.out).mono ?_
      rintro e w11 ⟨rfl, hb⟩
      rw [decide_eq_true hfv.out]
      replace PN := hid (PN.out.step hb); replace PT := hid (PT.out.step hb); replace OV := hid (OV.out.step hb); replace OH := hid (OH.out.step hb); replace OB := hid (OB.out.step hb); replace HB := hid (below_then HB.out hb)
      clear hb
      go_wp2
      go_ret
      exact ⟨rfl, HB.out⟩
end Go.Proofs.Ytnkaajkdjbdpaaa
