/- package grace: New, Over, Begin. No condition but sizes. -/
import Derived.Test.YtbibfjncjklclaaGr10
namespace Go.Proofs.Ytbibfjncjklclaa
open Go.RowKit
attribute [local go_sem] Oper.semAt_some
def nGr (n : Nat) : Gr := ⟨List.replicate n false, 0, 0, false⟩
theorem nGr_ok {n : Nat} (h1 : 1 ≤ n) (h8 : n ≤ 8) : GrOk (nGr n) := by
  refine ⟨by simpa [nGr] using h1, by simpa [nGr] using h8, Int.le_refl 0, by show (0 : Int) + 0 ≤ 0; decide, by show (0 : Int) ≤ 0 + 1; decide, by show (0 : Int) ≤ 2147483645; decide, ?_⟩
  show false = !gIdle (List.replicate n false)
  rw [(gIdle_iff _).2 (fun k => by rw [List.getElem?_replicate]; split <;> rfl)]
  rfl
def GNew (w : World) (n : Nat) (x : Ending) (w' : World) : Prop := ∃ D, x = .returned (.tuple #[gv (nGr n) D n n, .int .i64 0]) ∧ Ow blv w' w.heap.size 4 D n n (nGr n).nd ∧ Below w.heap.size w w'
theorem zrow_bool (n : Nat) : zrow (.bool false) n = ((List.replicate n false).map blv).toArray := by
  simp [zrow, blv]
set_option maxRecDepth 100000 in
set_option maxHeartbeats 4000000 in
theorem gnew_ok (n : Nat) (w : World) (h1 : 1 ≤ n) (h8 : n ≤ 8) : Calls Try.prog 60 #[.int .i64 n] w (GNew w n) := by
  have HB := hid (Below.refl w.heap.size w); have H1 := hid h1; have H8 := hid h8
  have bx := below_box w (.cells #[.int .i64 0, .int .i64 0, .bool false, .slice none 0 0] 27)
  replace HB := hid (below_then HB.out bx)
  clear bx
  have ZG := hid (Blk.new w 27 #[.int .i64 0, .int .i64 0, .bool false, .slice none 0 0])
  have d1 : decide ((n : Int) < 1) = false := decide_eq_false (by omega)
  have d2 : decide ((8 : Int) < (n : Int)) = false := decide_eq_false (by omega)
  have d3 : decide ((n : Int) > 8) = false := decide_eq_false (by omega)
  clear h1 h8
  go_enter Try.func60, Try.ntmps60
  go_upto_region 3 with fail
  have hz0 := hid (show (w.alloc (.cells #[.int .i64 0, .int .i64 0, .bool false, .slice none 0 0] 27)).heap.size = w.heap.size + 1 by simp)
  generalize w.alloc (.cells #[.int .i64 0, .int .i64 0, .bool false, .slice none 0 0] 27) = W0 at *
  have HZ0 := hid hz0
  clear d1 d2 d3 hz0
  have hm := run_make_boolg n (by have := H8.out; omega)
  have ZGa := hid (ZG.out.step (below_box W0 (.cells (zrow (.bool false) n) 4)))
  obtain ⟨y00, y01, y02, y03, yf0⟩ := ZG.out.cells4
  obtain ⟨y10, y11, y12, y13, yf1⟩ := ZGa.out.cells4
  go_wp2_with fail
  clear hm y00 y01 y02 y03 yf0 y10 y11 y12 y13 yf1 ZGa
  have bx := below_box W0 (.cells (zrow (.bool false) n) 4)
  replace ZG := hid (ZG.out.step bx); replace HB := hid (below_then HB.out bx)
  clear bx
  have PD := hid (Blk.new W0 4 (zrow (.bool false) n))
  generalize W0.alloc (.cells (zrow (.bool false) n) 4) = W1 at *
  have Z4 := hid (show Blk ((((W1.setCell ⟨w.heap.size, 0, none⟩ (.int .i64 0)).setCell ⟨w.heap.size, 1, none⟩ (.int .i64 0)).setCell ⟨w.heap.size, 2, none⟩ (.bool false)).setCell ⟨w.heap.size, 3, none⟩ (.slice (some ⟨W0.heap.size, 0, none⟩) n n)) w.heap.size 27 #[.int .i64 0, .int .i64 0, .bool false, .slice (some ⟨W0.heap.size, 0, none⟩) n n] from (((ZG.out.setCell 0 _).setCell 1 _).setCell 2 _).setCell 3 _)
  obtain ⟨y00, y01, y02, y03, yf0⟩ := Z4.out.cells4
  refine bodyPost_ret (v := .tuple #[gv (nGr n) (some ⟨W0.heap.size, 0, none⟩) n n, .int .i64 0]) (by simp [results, Try.results60, go_sem, nGr, y00, y01, y02, y03]) rfl ⟨some ⟨W0.heap.size, 0, none⟩, rfl, ?_, ?_⟩
  · have hz := HZ0.out.out
    exact ((((Blk.ow (enc := blv) (xs := List.replicate n false) (lo := w.heap.size) (n := n) PD.out (zrow_bool n) (by simp) (by omega) (by have := H8.out; simp only [maxLen]; omega)).far (p := ⟨w.heap.size, 0, none⟩) (by simp; omega) _).far (p := ⟨w.heap.size, 1, none⟩) (by simp; omega) _).far (p := ⟨w.heap.size, 2, none⟩) (by simp; omega) _).far (p := ⟨w.heap.size, 3, none⟩) (by simp; omega) _
  · exact (((HB.out.setCell (p := ⟨w.heap.size, 0, none⟩) (by simp) _).setCell (p := ⟨w.heap.size, 1, none⟩) (by simp) _).setCell (p := ⟨w.heap.size, 2, none⟩) (by simp) _).setCell (p := ⟨w.heap.size, 3, none⟩) (by simp) _
set_option maxRecDepth 100000 in
set_option maxHeartbeats 4000000 in
theorem over_ok (g : Gr) (D : Option Addr) (k e : Nat) (p : Int) (w : World) (h : Sl blv false w 0 w.heap.size D k g.nd) (hk : k ≤ 1000000) (hg : GrOk g) :
    Calls Try.prog 22 #[gv g D k e, .int .i64 p] w fun x w' => x = .returned (.bool (decide (1 ≤ p ∧ p ≤ g.dn))) ∧ Below w.heap.size w w' := by
  have HR := hid h; have HB := hid (Below.refl w.heap.size w); have HG := hid hg
  have HE : Hid (∀ b, b = decide (1 ≤ p ∧ p ≤ g.dn) → b = decide (1 ≤ p ∧ p ≤ g.dn)) := hid fun _ h => h
  obtain ⟨q, hq⟩ : ∃ q, q = decide (1 ≤ p ∧ p ≤ g.dn) := ⟨_, rfl⟩
  have HQ := hid hq
  rw [← hq]
  clear h hg hq HE
  have bx := below_box w (.cells (gcs g D k e) 27)
  replace HR := hid (HR.out.step bx); replace HB := hid (below_then HB.out bx)
  clear bx
  have PG := hid (Blk.new w 27 (gcs g D k e))
  obtain ⟨y00, y01, y02, y03, yf0⟩ := PG.out.cells4
  go_enter Try.func22, Try.ntmps22
  go_wp2_with fail
  have hz0 := hid (show (w.alloc (.cells (gcs g D k e) 27)).heap.size = w.heap.size + 1 by simp)
  generalize w.alloc (.cells (gcs g D k e) 27) = W0 at *
  clear y00 y01 y02 y03 yf0 hz0
  refine (gcheck_any g D k e 0 _ (HR.out.mono (Nat.zero_le _) (Nat.le_refl _)) hk).mono ?_
  rintro e w1 ⟨rfl, hb⟩
  replace HR := hid (HR.out.step hb); replace PG := hid (PG.out.step hb); replace HB := hid (below_then HB.out hb)
  clear hb
  rw [gchk_ok HG.out]
  by_cases h1 : 1 ≤ p
  · skip
    have d1 : decide (1 ≤ p) = true := decide_eq_true h1
    have d1' : decide (p ≥ 1) = true := decide_eq_true h1
    have HQ2 := hid (show q = decide (p ≤ g.dn) by rw [HQ.out, decide_eq_decide]; exact ⟨fun h => h.2, fun h => ⟨h1, h⟩⟩)
    obtain ⟨y00, y01, y02, y03, yf0⟩ := PG.out.cells4
    clear h1
    go_wp2
    go_ret
    exact ⟨ret_bool HQ2.out.symm, HB.out⟩
  · skip
    have d1 : decide (1 ≤ p) = false := decide_eq_false h1
    have d1' : decide (p ≥ 1) = false := decide_eq_false h1
    have HQ2 := hid (show q = false by rw [HQ.out]; exact decide_eq_false (fun h => h1 h.1))
    clear h1
    go_wp2
    go_ret
    exact ⟨ret_bool HQ2.out.symm, HB.out⟩
set_option maxRecDepth 100000 in
theorem begin1_on (gb : Nat) (now : Int) (A : Option Addr) (n k : Nat) (B : Option Addr) (m d : Nat) (g : Gr) (D : Option Addr) (nd kd : Nat) (E : Option Addr) (ne ke : Nat) (w : World) (P : Blk w gb 76 (bth now A n k B m d g D nd kd E ne ke)) (ho : g.on = true) :
    Calls Try.prog 57 #[ptr gb] w fun x w' => x = leaves 5 ∧ w' = w := by
  obtain ⟨gnd, gdn, gak, gon⟩ := g
  obtain rfl : gon = true := ho
  obtain ⟨y0, y1, y2, y3, y4, y5, y6, y7, yf⟩ := P.cells8
  clear P
  go_enter Try.func57, Try.ntmps57
  go_wp2_with fail
  refine (need_no 5 w).mono ?_
  rintro e w1 ⟨rfl, rfl⟩
  unfold leaves
  go_wp2_with fail
  exact ⟨rfl, rfl, rfl⟩
set_option maxRecDepth 100000 in
set_option maxHeartbeats 4000000 in
theorem gbegin_on (g : Gr) (D : Option Addr) (k e : Nat) (w : World) (h : Sl blv false w 0 w.heap.size D k g.nd) (hk : k ≤ 1000000) (hg : GrOk g) (ho : g.on = true) :
    Calls Try.prog 26 #[gv g D k e] w fun x w' => x = .returned (.tuple #[gv zGr none 0 0, .int .i64 5]) ∧ Below w.heap.size w w' := by
  have HR := hid h; have HB := hid (Below.refl w.heap.size w); have HG := hid hg; have HO := hid ho
  clear h hg ho
  have bx := below_box w (.cells (gcs g D k e) 27)
  replace HR := hid (HR.out.step bx); replace HB := hid (below_then HB.out bx)
  clear bx
  have PG := hid (Blk.new w 27 (gcs g D k e))
  have bx := below_box (w.alloc (.cells (gcs g D k e) 27)) (.cells #[.int .i64 0, .int .i64 0, .bool false, .slice none 0 0] 27)
  replace HR := hid (HR.out.step bx); replace PG := hid (PG.out.step bx); replace HB := hid (below_then HB.out bx)
  clear bx
  have ZG := hid (Blk.new2 w 27 #[.int .i64 0, .int .i64 0, .bool false, .slice none 0 0] (.cells (gcs g D k e) 27))
  obtain ⟨y00, y01, y02, y03, yf0⟩ := PG.out.cells4
  go_enter Try.func26, Try.ntmps26
  go_wp2_with fail
  have hz0 := hid (show ((w.alloc (.cells (gcs g D k e) 27)).alloc (.cells #[.int .i64 0, .int .i64 0, .bool false, .slice none 0 0] 27)).heap.size = w.heap.size + 2 by simp)
  generalize (w.alloc (.cells (gcs g D k e) 27)).alloc (.cells #[.int .i64 0, .int .i64 0, .bool false, .slice none 0 0] 27) = W0 at *
  have HZ0 := hid hz0
  clear y00 y01 y02 y03 yf0 hz0
  refine (tries_any g D k e 0 57 #[] (fun _ => False) (fun _ _ _ => False) (fun c _ => c = 5) W0 (fun _ h => h.elim) HR.out hk HG.out (enters_of Try.func57 (by kernel_rfl) rfl) ?_ (fun _ _ _ _ _ h _ _ => h) (fun _ _ _ h _ => h)).mono ?_
  ·intro wc gd gb hgd hgb hne hbw hPb hDb
   refine (begin1_on gb 0 none 0 0 none 0 0 g (some ⟨gd, 0, none⟩) k k none 0 0 wc hPb HO.out).mono ?_
   rintro x w2 ⟨rfl, rfl⟩
   exact ⟨.refl _ _, .inr ⟨5, rfl, rfl⟩⟩
  rintro x w2 ⟨hg2, ⟨gb, rfl, l, _, _, h⟩ | ⟨gn, c, rfl, rfl, hgn, hb⟩⟩
  ·exact h.elim
  have P2 := hid hb; have HL := hid hgn
  have hb2 := hg2.toBelow
  clear hb hg2 hgn
  replace ZG := hid (ZG.out.step hb2); replace HB := hid (below_then HB.out hb2)
  clear hb2
  obtain ⟨y00, y01, y02, y03, y04, y05, y06, y07, yf0⟩ := P2.out.cells8
  obtain ⟨y10, y11, y12, y13, yf1⟩ := ZG.out.cells4
  go_wp2_with fail
  clear y00 y01 y02 y03 y04 y05 y06 y07 yf0 y10 y11 y12 y13 yf1
  have Z4 := hid (show Blk ((((w2.setCell ⟨w.heap.size + 1, 0, none⟩ (.int .i64 0)).setCell ⟨w.heap.size + 1, 1, none⟩ (.int .i64 0)).setCell ⟨w.heap.size + 1, 2, none⟩ (.bool false)).setCell ⟨w.heap.size + 1, 3, none⟩ (.slice none 0 0)) (w.heap.size + 1) 27 #[.int .i64 0, .int .i64 0, .bool false, .slice none 0 0] from (((ZG.out.setCell 0 _).setCell 1 _).setCell 2 _).setCell 3 _)
  obtain ⟨y00, y01, y02, y03, yf0⟩ := Z4.out.cells4
  refine bodyPost_ret (v := .tuple #[gv zGr none 0 0, .int .i64 5]) (by simp [results, Try.results26, go_sem, zGr, y00, y01, y02, y03]) rfl ⟨rfl, ?_⟩
  exact (((HB.out.setCell (p := ⟨w.heap.size + 1, 0, none⟩) (by simp) _).setCell (p := ⟨w.heap.size + 1, 1, none⟩) (by simp) _).setCell (p := ⟨w.heap.size + 1, 2, none⟩) (by simp) _).setCell (p := ⟨w.heap.size + 1, 3, none⟩) (by simp) _
end Go.Proofs.Ytbibfjncjklclaa
