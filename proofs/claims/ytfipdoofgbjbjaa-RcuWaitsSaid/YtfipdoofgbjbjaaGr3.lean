/- package grace: tries. No condition but sizes. -/
import Derived.Test.YtfipdoofgbjbjaaGr2
import Derived.Test.YtfipdoofgbjbjaaKitA
import Derived.Shelf.Abstract
import Derived.Deep.DeepCutAuto
import Derived.Deep.CutBlock
namespace Go.Proofs.Ytfipdoofgbjbjaa
open Go.RowKit
theorem info_boolg : (Try.prog.info? 4).map (fun i => (i.zero, i.size, i.bytes)) = some (some (.bool false), 1, 1) := by kernel_rfl
theorem run_make_boolg (n : Nat) (hn : n ≤ 1000000) (w : World) :
    (Instr.makeSlice 25 (.int .i64 n) (.int .i64 n)).run Try.prog w = .ok (.slice (some ⟨w.heap.size, 0, none⟩) n n) (w.alloc (.cells (zrow (.bool false) n) 4)) := by
  obtain ⟨i0, hi0, hz00, hz01, hz02⟩ := info_parts info_boolg
  exact run_make1 Try.underlying25 hi0 hz00 hz01 rfl n (by rw [hz02]; omega) hn w
theorem GrownP.cut {q : Nat → Prop} {B : Nat} {w a b : World} (h : Below w.heap.size w a) (k : GrownP (fun i => q i ∨ B ≤ i) a b) (hB : w.heap.size ≤ B) : GrownP q w b :=
  ⟨k.os.trans h.os, k.tape.trans h.tape, k.output.trans h.output, Nat.le_trans h.size k.size, fun i hi hq => (k.block i (Nat.lt_of_lt_of_le hi h.size) (fun e => by rcases e with e | e; exact hq e; omega)).trans (h.block i hi)⟩
theorem GrownP.setCell {q : Nat → Prop} {w a : World} (h : GrownP q w a) {p : Addr} (hp : w.heap.size ≤ p.block) (u : Value) : GrownP q w (a.setCell p u) :=
  ⟨h.os, h.tape, h.output, by simpa using h.size, fun i hi hq => (Below.heap_setCell a p u i (by omega)).trans (h.block i hi hq)⟩
theorem GrownP.then_ {q : Nat → Prop} {w a b : World} (h : GrownP q w a) (k : Below w.heap.size a b) : GrownP q w b :=
  ⟨k.os.trans h.os, k.tape.trans h.tape, k.output.trans h.output, Nat.le_trans h.size k.size, fun i hi hq => (k.block i hi).trans (h.block i hi hq)⟩
theorem GrownP.toBelow {w a : World} (h : GrownP (fun _ => False) w a) : Below w.heap.size w a := ⟨h.os, h.tape, h.output, h.size, fun i hi => h.block i hi id⟩
theorem Blk.keptP {p : Nat → Prop} {w w' : World} {g : Nat} {t : TypeId} {cs : Array Value} (h : Blk w g t cs) (k : GrownP p w w') (hn : ¬ p g) : Blk w' g t cs := (k.block g h.lt hn).trans h
/-- what a function that tries hands back; q: what the closure may write besides -/
def Tried (w : World) (q : Nat → Prop) (YES : Nat → Nat → World → Prop) (NO : Int → World → Prop) (x : Ending) (w' : World) : Prop :=
  GrownP q w w' ∧ ((∃ gb, x = .returned (.tuple #[ptr gb, .int .i64 0]) ∧ ∃ l, w.heap.size ≤ l ∧ l ≤ gb ∧ YES l gb w') ∨ ∃ gn c, x = .returned (.tuple #[ptr gn, .int .i64 c]) ∧ NO c w' ∧ w.heap.size ≤ gn ∧ Blk w' gn 126 bth0)
set_option maxRecDepth 100000 in
set_option maxHeartbeats 4000000 in
theorem tries_any (g : Gr) (D : Option Addr) (k e lo : Nat) (F : Nat) (caps : Array Value) (q : Nat → Prop) (YES : Nat → Nat → World → Prop) (NO : Int → World → Prop) (w : World) (hq : ∀ i, q i → i < w.heap.size) (h : Sl blv false w lo w.heap.size D k g.nd) (hk : k ≤ 1000000) (hg : GrOk g) (hF : Enters Try.prog F)
    (hdo : ∀ (w1 : World) (gd gb : Nat), w.heap.size ≤ gd → w.heap.size ≤ gb → gd ≠ gb → Below w.heap.size w w1 → Blk w1 gb 126 (bth 0 none 0 0 none 0 0 g (some ⟨gd, 0, none⟩) k k none 0 0) → Ow blv w1 gd 4 (some ⟨gd, 0, none⟩) k k g.nd →
      Calls Try.prog F (#[ptr gb] ++ caps) w1 fun x w2 => GrownP (fun i => q i ∨ min gd gb ≤ i) w1 w2 ∧ ((x = .returned (.tuple #[]) ∧ YES (min gd gb) gb w2) ∨ ∃ c, x = leaves c ∧ NO c w2))
    (hst : ∀ (l gb : Nat) (W : World) (p : Addr) (u : Value), YES l gb W → w.heap.size ≤ p.block → p.block < l → YES l gb (W.setCell p u))
    (hsn : ∀ (c : Int) (W W' : World), NO c W → Below w.heap.size W W' → NO c W') :
    Calls Try.prog 79 #[gv g D k e, .func (.func F) #[] caps] w (Tried w q YES NO) := by
  have HR := hid h; have HB := hid (Below.refl w.heap.size w); have HDO := hid hdo; have HG := hid hg; have HL := hid h.len; have HF := hid hF; have HST := hid hst; have HSN := hid hsn; have HQ := hid hq
  clear h hdo hg hF hst hsn hq
  have hmf : ∀ (fn : Fn) (first cap : Array Value) (w : World), (Instr.makeFunc fn first cap).run Try.prog w = .ok (.func fn first cap) w := fun _ _ _ _ => rfl
  have bx := below_box w (.cells (gcs g D k e) 27)
  replace HR := hid (HR.out.step bx); replace HB := hid (below_then HB.out bx)
  clear bx
  have P2 := hid (Blk.new w 27 (gcs g D k e))
  have bx := below_box (w.alloc (.cells (gcs g D k e) 27)) (.cells #[.pointer none] 120)
  replace HR := hid (HR.out.step bx); replace P2 := hid (P2.out.step bx); replace HB := hid (below_then HB.out bx)
  clear bx
  have P4 := hid (Blk.new2 w 120 #[.pointer none] (.cells (gcs g D k e) 27))
  have bx := below_box ((w.alloc (.cells (gcs g D k e) 27)).alloc (.cells #[.pointer none] 120)) (.cells #[.int .i64 0] 33)
  replace HR := hid (HR.out.step bx); replace P2 := hid (P2.out.step bx); replace P4 := hid (P4.out.step bx); replace HB := hid (below_then HB.out bx)
  clear bx
  have P5 := hid (Blk.new3 w 33 #[.int .i64 0] (.cells (gcs g D k e) 27) (.cells #[.pointer none] 120))
  go_enter_defers Try.func79, Try.ntmps79
  go_upto_region 2 with fail
  have hz0 := hid (show (((w.alloc (.cells (gcs g D k e) 27)).alloc (.cells #[.pointer none] 120)).alloc (.cells #[.int .i64 0] 33)).heap.size = w.heap.size + 3 by simp)
  generalize ((w.alloc (.cells (gcs g D k e) 27)).alloc (.cells #[.pointer none] 120)).alloc (.cells #[.int .i64 0] 33) = W0 at *
  have HZ := hid hz0
  clear hz0 hmf
  obtain ⟨y00, y01, y02, y03, yf0⟩ := P2.out.cells4
  go_wp2_with fail
  clear y00 y01 y02 y03 yf0
  refine (gcheck_any g D k e lo _ HR.out hk).mono ?_
  rintro e w1 ⟨rfl, hb⟩
  have HS1 := hid hb.size
  replace HR := hid (HR.out.step hb); replace P2 := hid (P2.out.step hb); replace P4 := hid (P4.out.step hb); replace P5 := hid (P5.out.step hb); replace HB := hid (below_then HB.out hb)
  clear hb
  rw [gchk_ok HG.out]
  go_wp2_with fail
  refine (need_yes 220 _).mono ?_
  rintro x v1 ⟨rfl, rfl⟩
  have hm := run_make_boolg k hk
  obtain ⟨y00, y01, y02, y03, yf0⟩ := P2.out.cells4
  go_upto_region 4 with fail
  clear hm y00 y01 y02 y03 yf0
  have HV := hid (Below.refl v1.heap.size v1)
  have bx := below_box v1 (.cells (zrow (.bool false) k) 4)
  replace HR := hid (HR.out.step bx); replace P2 := hid (P2.out.step bx); replace P4 := hid (P4.out.step bx); replace P5 := hid (P5.out.step bx); replace HB := hid (below_then HB.out bx); replace HV := hid (below_then HV.out bx)
  clear bx
  have PD := hid (Blk.new v1 4 (zrow (.bool false) k))
  generalize v1.alloc (.cells (zrow (.bool false) k) 4) = W2 at *
  obtain ⟨y00, y01, y02, y03, yf0⟩ := P2.out.cells4
  have q2 := fun ty => run_copy_full (P := Try.prog) blv false 25 25 ty 4 Try.underlying25 (by kernel_rfl) v1.heap.size k k e D _ _ PD.out (by simp [zrow]) _ _ g.nd HR.out (fun _ => rfl)
  go_upto_region 5 with fail
  clear q2 y00 y01 y02 y03 yf0
  have hv := hid (show w.heap.size + 3 ≤ v1.heap.size by have := HZ.out.out; have := HS1.out; omega)
  replace PD := hid (show Blk (W2.setRow v1.heap.size (List.map blv g.nd).toArray) v1.heap.size 4 (List.map blv g.nd).toArray from PD.out.setRow)
  replace P2 := hid (P2.out.farRow (k := v1.heap.size) (cs' := (List.map blv g.nd).toArray) (by have := hv.out; omega))
  replace P4 := hid (P4.out.farRow (k := v1.heap.size) (cs' := (List.map blv g.nd).toArray) (by have := hv.out; omega))
  replace P5 := hid (P5.out.farRow (k := v1.heap.size) (cs' := (List.map blv g.nd).toArray) (by have := hv.out; omega))
  replace HB := hid (below_setRow HB.out (g := v1.heap.size) (by have := hv.out; omega) (List.map blv g.nd).toArray)
  clear HR HV
  generalize W2.setRow v1.heap.size (List.map blv g.nd).toArray = W3 at *
  obtain ⟨y00, y01, y02, y03, yf0⟩ := P2.out.cells4
  go_upto_region 6 with fail
  clear y00 y01 y02 y03 yf0
  have P2b := hid (P2.out.setCell 3 (.slice (some ⟨v1.heap.size, 0, none⟩) k k))
  replace P2 := hid (show Blk (W3.setCell ⟨w.heap.size, 3, none⟩ (.slice (some ⟨v1.heap.size, 0, none⟩) k k)) w.heap.size 27 (gcs g (some ⟨v1.heap.size, 0, none⟩) k k) from P2b.out)
  clear P2b
  replace P4 := hid (P4.out.far (p := ⟨w.heap.size, 3, none⟩) (by simp) (.slice (some ⟨v1.heap.size, 0, none⟩) k k))
  replace P5 := hid (P5.out.far (p := ⟨w.heap.size, 3, none⟩) (by simp; omega) (.slice (some ⟨v1.heap.size, 0, none⟩) k k))
  replace PD := hid (PD.out.far (p := ⟨w.heap.size, 3, none⟩) (by have := hv.out; simp; omega) (.slice (some ⟨v1.heap.size, 0, none⟩) k k))
  replace HB := hid (HB.out.setCell (p := ⟨w.heap.size, 3, none⟩) (Nat.le_refl _) (.slice (some ⟨v1.heap.size, 0, none⟩) k k))
  generalize W3.setCell ⟨w.heap.size, 3, none⟩ (.slice (some ⟨v1.heap.size, 0, none⟩) k k) = W4 at *
  have P4a := hid (P4.out.alloc (.cells #[.int .i64 0, .slice none 0 0, .slice none 0 0, .int .i64 g.dn, .int .i64 g.ak, .bool g.on, .slice (some ⟨v1.heap.size, 0, none⟩) k k, .slice none 0 0] 126))
  obtain ⟨y00, y01, y02, y03, yf0⟩ := P2.out.cells4
  obtain ⟨y10, yf1⟩ := P4a.out.cells1
  go_upto_region 7 with fail
  clear y00 y01 y02 y03 yf0 y10 yf1
  have hsz4 := hid PD.out.lt
  have PB := hid ((Blk.new W4 126 #[.int .i64 0, .slice none 0 0, .slice none 0 0, .int .i64 g.dn, .int .i64 g.ak, .bool g.on, .slice (some ⟨v1.heap.size, 0, none⟩) k k, .slice none 0 0]).far (p := ⟨w.heap.size + 1, 0, none⟩) (by have := hv.out; have := hsz4.out; simp; omega) (.pointer (some ⟨W4.heap.size, 0, none⟩)))
  replace P4 := hid (show Blk ((W4.alloc (.cells #[.int .i64 0, .slice none 0 0, .slice none 0 0, .int .i64 g.dn, .int .i64 g.ak, .bool g.on, .slice (some ⟨v1.heap.size, 0, none⟩) k k, .slice none 0 0] 126)).setCell ⟨w.heap.size + 1, 0, none⟩ (.pointer (some ⟨W4.heap.size, 0, none⟩))) (w.heap.size + 1) 120 #[ptr W4.heap.size] from (P4a.out.setCell 0 _))
  clear P4a
  replace P5 := hid ((P5.out.alloc (.cells #[.int .i64 0, .slice none 0 0, .slice none 0 0, .int .i64 g.dn, .int .i64 g.ak, .bool g.on, .slice (some ⟨v1.heap.size, 0, none⟩) k k, .slice none 0 0] 126)).far (p := ⟨w.heap.size + 1, 0, none⟩) (by simp) (.pointer (some ⟨W4.heap.size, 0, none⟩)))
  replace PD := hid ((PD.out.alloc (.cells #[.int .i64 0, .slice none 0 0, .slice none 0 0, .int .i64 g.dn, .int .i64 g.ak, .bool g.on, .slice (some ⟨v1.heap.size, 0, none⟩) k k, .slice none 0 0] 126)).far (p := ⟨w.heap.size + 1, 0, none⟩) (by have := hv.out; simp; omega) (.pointer (some ⟨W4.heap.size, 0, none⟩)))
  replace HB := hid ((HB.out.alloc HB.out.size (.cells #[.int .i64 0, .slice none 0 0, .slice none 0 0, .int .i64 g.dn, .int .i64 g.ak, .bool g.on, .slice (some ⟨v1.heap.size, 0, none⟩) k k, .slice none 0 0] 126)).setCell (p := ⟨w.heap.size + 1, 0, none⟩) (by simp) (.pointer (some ⟨W4.heap.size, 0, none⟩)))
  have hs5 := hid (show ((W4.alloc (.cells #[.int .i64 0, .slice none 0 0, .slice none 0 0, .int .i64 g.dn, .int .i64 g.ak, .bool g.on, .slice (some ⟨v1.heap.size, 0, none⟩) k k, .slice none 0 0] 126)).setCell ⟨w.heap.size + 1, 0, none⟩ (.pointer (some ⟨W4.heap.size, 0, none⟩))).heap.size = W4.heap.size + 1 by simp)
  clear P2
  generalize ((W4.alloc (.cells #[.int .i64 0, .slice none 0 0, .slice none 0 0, .int .i64 g.dn, .int .i64 g.ak, .bool g.on, .slice (some ⟨v1.heap.size, 0, none⟩) k k, .slice none 0 0] 126)).setCell ⟨w.heap.size + 1, 0, none⟩ (.pointer (some ⟨W4.heap.size, 0, none⟩))) = W5 at *
  have hEn := HF.out
  obtain ⟨y00, yf0⟩ := P4.out.cells1
  go_wp2_with fail
  clear y00 yf0 hEn
  rw [HF.out (#[ptr W4.heap.size] ++ caps) W5]
  rw [Oper.upon_enter]
  have hs4 := hid (show w.heap.size + 4 ≤ W4.heap.size by have := hv.out; have := hsz4.out; omega)
  refine (HDO.out W5 v1.heap.size W4.heap.size (by have := hv.out; omega) (by have := hs4.out; omega) (by have := hsz4.out; omega) HB.out PB.out (Blk.ow PD.out rfl HL.out (Nat.le_refl _) (by simp [maxLen]; omega))).mono ?_
  rintro x W6 ⟨hb, ⟨rfl, hy⟩ | ⟨c, rfl, hno⟩⟩
  · skip
    have P4a := hid (P4.out.keptP hb (by rintro (h | h); exact absurd (HQ.out _ h) (by omega); exact absurd h (by have := hv.out; have := hs4.out; omega)))
    have P5a := hid (P5.out.keptP hb (by rintro (h | h); exact absurd (HQ.out _ h) (by omega); exact absurd h (by have := hv.out; have := hs4.out; omega)))
    have HYa := hid hy
    clear hy
    have HBa := hid (GrownP.cut HB.out hb (show w.heap.size ≤ min v1.heap.size W4.heap.size by have := hv.out; have := hs4.out; omega))
    clear hb P4 P5 PB PD HB HDO
    have c4 := P4a.out.cell 0
    have f4 := P4a.out.frozen 0
    have c5 := P5a.out.cell 0
    have f5 := P5a.out.frozen 0
    go_upto_region 8 with fail
    go_wp2_with fail
    clear c4 f4 c5 f5
    have P4b := hid ((P4a.out.setCell 0 (ptr W4.heap.size)).far (p := ⟨w.heap.size + 1 + 1, 0, none⟩) (by simp) (.int .i64 0))
    have P5b := hid ((P5a.out.far (p := ⟨w.heap.size + 1, 0, none⟩) (by simp) (ptr W4.heap.size)).setCell 0 (.int .i64 0))
    have HBb := hid ((HBa.out.setCell (p := ⟨w.heap.size + 1, 0, none⟩) (by simp) (ptr W4.heap.size)).setCell (p := ⟨w.heap.size + 1 + 1, 0, none⟩) (by simp; omega) (.int .i64 0))
    have HYb := hid (HST.out _ _ _ ⟨w.heap.size + 1 + 1, 0, none⟩ (.int .i64 0) (HST.out _ _ _ ⟨w.heap.size + 1, 0, none⟩ (ptr W4.heap.size) HYa.out (by simp) (by have := hv.out; have := hs4.out; simp; omega)) (by simp; omega) (by have := hv.out; have := hs4.out; simp; omega))
    clear P4a P5a HBa HYa
    generalize (W6.setCell ⟨w.heap.size + 1, 0, none⟩ (ptr W4.heap.size)).setCell ⟨w.heap.size + 1 + 1, 0, none⟩ (.int .i64 0) = W7 at *
    refine leaves_cons (f := 89) (args := #[ptr (w.heap.size + 1), ptr (w.heap.size + 1 + 1)]) (by simp) (by simp [go_sem]) ?_
    refine (catch_idle _ _ _).mono ?_
    rintro x u' w'' ⟨rfl, rfl, rfl⟩
    have c4 := P4b.out.cell 0
    have c5 := P5b.out.cell 0
    simp [Leaves, settle, results, Try.results79, go_sem, c4, c5]
    exact ⟨HBb.out, .inl ⟨_, rfl, _, by have := hv.out; have := hs4.out; omega, Nat.min_le_right _ _, HYb.out⟩⟩
  · skip
    have P4a := hid (P4.out.keptP hb (by rintro (h | h); exact absurd (HQ.out _ h) (by omega); exact absurd h (by have := hv.out; have := hs4.out; omega)))
    have P5a := hid (P5.out.keptP hb (by rintro (h | h); exact absurd (HQ.out _ h) (by omega); exact absurd h (by have := hv.out; have := hs4.out; omega)))
    have HBa := hid (GrownP.cut HB.out hb (show w.heap.size ≤ min v1.heap.size W4.heap.size by have := hv.out; have := hs4.out; omega))
    have HNOa := hid hno
    clear hno hb P4 P5 PB PD HB HDO
    refine leaves_cons (f := 89) (args := #[ptr (w.heap.size + 1), ptr (w.heap.size + 1 + 1)]) (by simp) (by simp [go_sem]) ?_
    refine (catch_panicking (w.heap.size + 1) (w.heap.size + 1 + 1) w.heap.size c _ _ W6 P4a.out P5a.out (by omega) (by omega) HBa.out.size).mono ?_
    rintro x u' w'' ⟨rfl, rfl, gn, hgn, hbb, hbn, hb4, hb5⟩
    have HNO := hid (HSN.out _ _ _ HNOa.out hbb)
    have c4 := hb4.cell 0
    have c5 := hb5.cell 0
    simp [Leaves, settle, results, Try.results79, go_sem, c4, c5]
    exact ⟨HBa.out.then_ hbb, .inr ⟨_, _, rfl, HNO.out, by have := HBa.out.size; omega, hbn⟩⟩
end Go.Proofs.Ytfipdoofgbjbjaa
