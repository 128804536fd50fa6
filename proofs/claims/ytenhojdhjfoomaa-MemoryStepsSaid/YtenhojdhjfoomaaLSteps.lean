/- afterglowlaw02.MemorySteps. -/
import Derived.Test.YtenhojdhjfoomaaLTags
import Derived.Test.YtenhojdhjfoomaaMRun
import Derived.Test.YtenhojdhjfoomaaOpenMe
namespace Go.Proofs.Ytenhojdhjfoomaa
open Go.RowKit
theorem FarG.of_le {n m : Nat} {A B : Option Addr} {g : Nat} (ha : ∀ a, A = some a → a.block < g ∨ g < a.block) (hb : ∀ a, B = some a → a.block < g ∨ g < a.block) : FarG n A m B g :=
  ⟨fun _ a h => by have := ha a h; omega, fun _ a h => by have := hb a h; omega⟩
/-- in the loop of MemorySteps -/
structure StRel (w2 : World) (g5 g7 Z : Nat) (L : Option Addr) (nl : Nat) (al : List Acc) (wr : World) (A : Option Addr) (n c : Nat) (B : Option Addr) (m d : Nat) (s : MSt) (A' : Option Addr) (n' c' : Nat) (B' : Option Addr) (m' d' : Nat) (sA : MSt) (G : Option Addr) (ng cg : Nat) (gs : List (Int × Bool)) : Prop where
  p5 : Blk wr g5 25 (mcs A n c B m d s.2.2)
  mm : Mem wr A n c B m d s.1 s.2.1
  f5 : FarG n A m B g5
  f7 : FarG n A m B g7
  p7 : Blk wr g7 25 (mcs A' n' c' B' m' d' sA.2.2)
  ma : Mem wr A' n' c' B' m' d' sA.1 sA.2.1
  fa5 : FarG n' A' m' B' g5
  fa7 : FarG n' A' m' B' g7
  og : Om 2 encG wr Z 47 G ng cg gs
  sl : Sm 4 encA (0, 0, 0, 0) wr (g5 + 1) g7 L nl al
  be : Below w2.heap.size w2 wr
  zz : Z ≤ wr.heap.size
theorem StRel.step {w2 : World} {g5 g7 Z : Nat} {L : Option Addr} {nl : Nat} {al : List Acc} {wr wx : World} {A : Option Addr} {n c : Nat} {B : Option Addr} {m d : Nat} {s : MSt} {A' : Option Addr} {n' c' : Nat} {B' : Option Addr} {m' d' : Nat} {sA : MSt} {G : Option Addr} {ng cg : Nat} {gs : List (Int × Bool)}
    (h : StRel w2 g5 g7 Z L nl al wr A n c B m d s A' n' c' B' m' d' sA G ng cg gs) (hb : Below wr.heap.size wr wx) : StRel w2 g5 g7 Z L nl al wx A n c B m d s A' n' c' B' m' d' sA G ng cg gs :=
  ⟨h.p5.step hb, h.mm.step hb, h.f5, h.f7, h.p7.step hb, h.ma.step hb, h.fa5, h.fa7, h.og.step hb, h.sl.below hb (Nat.le_of_lt h.p7.lt), below_then h.be hb, Nat.le_trans h.zz hb.size⟩
section
variable {w2 : World} {g5 g7 Z : Nat} {L : Option Addr} {nl : Nat} {al : List Acc} {wr wx : World} {A : Option Addr} {n c : Nat} {B : Option Addr} {m d : Nat} {s : MSt} {A' : Option Addr} {n' c' : Nat} {B' : Option Addr} {m' d' : Nat} {sA : MSt} {G : Option Addr} {ng cg : Nat} {gs : List (Int × Bool)}
/-- what is stored into the memory of the rounds -/
theorem StRel.put5 (h : StRel w2 g5 g7 Z L nl al wr A n c B m d s A' n' c' B' m' d' sA G ng cg gs) {A1 : Option Addr} {n1 c1 : Nat} {B1 : Option Addr} {m1 d1 : Nat} {s1 : MSt} (hm : Mem wr A1 n1 c1 B1 m1 d1 s1.1 s1.2.1) (f5 : FarG n1 A1 m1 B1 g5) (f7 : FarG n1 A1 m1 B1 g7) (h5 : w2.heap.size ≤ g5) (h57 : g5 < g7) (hZ : g5 < Z) :
    StRel w2 g5 g7 Z L nl al (((wr.setCell ⟨g5, 0, none⟩ (.slice A1 n1 c1)).setCell ⟨g5, 1, none⟩ (.slice B1 m1 d1)).setCell ⟨g5, 2, none⟩ (.bool s1.2.2)) A1 n1 c1 B1 m1 d1 s1 A' n' c' B' m' d' sA G ng cg gs :=
  ⟨((h.p5.setCell 0 _).setCell 1 _).setCell 2 _, ((hm.setFarG f5 0 _).setFarG f5 1 _).setFarG f5 2 _, f5, f7, ((h.p7.far (by simp; omega) _).far (by simp; omega) _).far (by simp; omega) _, ((h.ma.setFarG h.fa5 0 _).setFarG h.fa5 1 _).setFarG h.fa5 2 _, h.fa5, h.fa7,
   ((h.og.setCell hZ _).setCell hZ _).setCell hZ _, ((h.sl.setCell (.inl (by simp)) _).setCell (.inl (by simp)) _).setCell (.inl (by simp)) _, ((h.be.setCell h5 _).setCell h5 _).setCell h5 _, by simpa using h.zz⟩
theorem StRel.put7 (h : StRel w2 g5 g7 Z L nl al wr A n c B m d s A' n' c' B' m' d' sA G ng cg gs) {A1 : Option Addr} {n1 c1 : Nat} {B1 : Option Addr} {m1 d1 : Nat} {s1 : MSt} (hm : Mem wr A1 n1 c1 B1 m1 d1 s1.1 s1.2.1) (f5 : FarG n1 A1 m1 B1 g5) (f7 : FarG n1 A1 m1 B1 g7) (h5 : w2.heap.size ≤ g7) (h57 : g5 < g7) (hZ : g7 < Z) :
    StRel w2 g5 g7 Z L nl al (((wr.setCell ⟨g7, 0, none⟩ (.slice A1 n1 c1)).setCell ⟨g7, 1, none⟩ (.slice B1 m1 d1)).setCell ⟨g7, 2, none⟩ (.bool s1.2.2)) A n c B m d s A1 n1 c1 B1 m1 d1 s1 G ng cg gs :=
  ⟨((h.p5.far (by simp; omega) _).far (by simp; omega) _).far (by simp; omega) _, ((h.mm.setFarG h.f7 0 _).setFarG h.f7 1 _).setFarG h.f7 2 _, h.f5, h.f7, ((h.p7.setCell 0 _).setCell 1 _).setCell 2 _, ((hm.setFarG f7 0 _).setFarG f7 1 _).setFarG f7 2 _, f5, f7,
   ((h.og.setCell hZ _).setCell hZ _).setCell hZ _, ((h.sl.setCell (.inr (by simp)) _).setCell (.inr (by simp)) _).setCell (.inr (by simp)) _, ((h.be.setCell h5 _).setCell h5 _).setCell h5 _, by simpa using h.zz⟩
end
theorem Sm.grown {α : Type} {sz : Nat} {enc : α → Nat → Value} {d : α} {w w' : World} {lo hi : Nat} {A : Option Addr} {n : Nat} {xs : List α} {row : Option Nat} (h : Sm sz enc d w lo hi A n xs) (hg : w.grownBy w' row) (hr : ∀ k, row = some k → k < lo ∨ hi ≤ k) (hs : hi ≤ w.heap.size) : Sm sz enc d w' lo hi A n xs :=
  h.keep fun b o h1 h2 => by
    have := hg.block b (by omega) (fun he => by have := hr b he.symm; omega)
    unfold World.cell?
    rw [this]
structure Kp (w2 : World) (g5 g7 : Nat) (L : Option Addr) (nl : Nat) (al : List Acc) (wr : World) (c5 c7 : Array Value) (g13 g18 : Nat) (c13 c18 : Array Value) : Prop where
  p5 : Blk wr g5 25 c5
  p7 : Blk wr g7 25 c7
  sl : Sm 4 encA (0, 0, 0, 0) wr (g5 + 1) g7 L nl al
  be : Below w2.heap.size w2 wr
  p13 : Blk wr g13 47 c13
  p18 : Blk wr g18 25 c18
section
variable {w2 : World} {g5 g7 Z : Nat} {L : Option Addr} {nl : Nat} {al : List Acc} {wr wx : World} {c5 c7 c13 c18 : Array Value} {g13 g18 : Nat}
theorem Kp.step (h : Kp w2 g5 g7 L nl al wr c5 c7 g13 g18 c13 c18) (hb : Below wr.heap.size wr wx) : Kp w2 g5 g7 L nl al wx c5 c7 g13 g18 c13 c18 :=
  ⟨h.p5.step hb, h.p7.step hb, h.sl.below hb (Nat.le_of_lt h.p7.lt), below_then h.be hb, h.p13.step hb, h.p18.step hb⟩
theorem Kp.grown {row : Option Nat} (h : Kp w2 g5 g7 L nl al wr c5 c7 g13 g18 c13 c18) (hg : wr.grownBy wx row) (hr : ∀ k, row = some k → w2.heap.size ≤ k ∧ g5 < k ∧ g7 < k ∧ k < g13 ∧ k < g18) : Kp w2 g5 g7 L nl al wx c5 c7 g13 g18 c13 c18 :=
  ⟨h.p5.grown hg (fun e => by have := hr _ e.symm; omega), h.p7.grown hg (fun e => by have := hr _ e.symm; omega), h.sl.grown hg (fun k hk => by have := hr k hk; omega) (Nat.le_of_lt h.p7.lt), h.be.grown hg (h.be.size) (fun k hk => (hr k hk).1), h.p13.grown hg (fun e => by have := hr _ e.symm; omega), h.p18.grown hg (fun e => by have := hr _ e.symm; omega)⟩
theorem Kp.set7 (h : Kp w2 g5 g7 L nl al wr c5 c7 g13 g18 c13 c18) (hn : w2.heap.size ≤ g7 ∧ g5 < g7 ∧ g7 < g13 ∧ g7 < g18) (i : Nat) (u : Value) : Kp w2 g5 g7 L nl al (wr.setCell ⟨g7, i, none⟩ u) c5 (c7.setIfInBounds i u) g13 g18 c13 c18 :=
  ⟨h.p5.far (by simp; omega) _, h.p7.setCell i u, h.sl.setCell (.inr (by simp)) _, h.be.setCell hn.1 _, h.p13.far (by simp; omega) _, h.p18.far (by simp; omega) _⟩
theorem Kp.fin (h : Kp w2 g5 g7 L nl al wr c5 c7 g13 g18 c13 c18) {A1 : Option Addr} {n1 k1 : Nat} {B1 : Option Addr} {m1 d1 : Nat} {s1 : MSt} (hm : Mem wr A1 n1 k1 B1 m1 d1 s1.1 s1.2.1) (f5 : FarG n1 A1 m1 B1 g5) (f7 : FarG n1 A1 m1 B1 g7)
    {A2 : Option Addr} {n2 k2 : Nat} {B2 : Option Addr} {m2 d2 : Nat} {s2 : MSt} (hm' : Mem wr A2 n2 k2 B2 m2 d2 s2.1 s2.2.1) (f5' : FarG n2 A2 m2 B2 g5) (f7' : FarG n2 A2 m2 B2 g7)
    {G : Option Addr} {ng cg : Nat} {gs : List (Int × Bool)} (og : Om 2 encG wr Z 47 G ng cg gs) (hc5 : c5.size = 3) (hc7 : c7.size = 3) (hzz : Z ≤ wr.heap.size) (h5 : w2.heap.size ≤ g5) (h57 : g5 < g7) (hZ : g7 < Z) :
    StRel w2 g5 g7 Z L nl al ((((((wr.setCell ⟨g7, 0, none⟩ (.slice A2 n2 k2)).setCell ⟨g7, 1, none⟩ (.slice B2 m2 d2)).setCell ⟨g7, 2, none⟩ (.bool s2.2.2)).setCell ⟨g5, 0, none⟩ (.slice A1 n1 k1)).setCell ⟨g5, 1, none⟩ (.slice B1 m1 d1)).setCell ⟨g5, 2, none⟩ (.bool s1.2.2)) A1 n1 k1 B1 m1 d1 s1 A2 n2 k2 B2 m2 d2 s2 G ng cg gs := by
  obtain ⟨l5⟩ := c5; obtain ⟨l7⟩ := c7
  match l5, hc5, l7, hc7, h with
  | [a, b, c], _, [a', b', c'], _, h =>
    exact ⟨((((((h.p5.far (by simp; omega) _).far (by simp; omega) _).far (by simp; omega) _).setCell 0 _).setCell 1 _).setCell 2 _), (((((hm.setFarG f7 0 _).setFarG f7 1 _).setFarG f7 2 _).setFarG f5 0 _).setFarG f5 1 _).setFarG f5 2 _, f5, f7,
      ((((((h.p7.setCell 0 _).setCell 1 _).setCell 2 _).far (by simp; omega) _).far (by simp; omega) _).far (by simp; omega) _), (((((hm'.setFarG f7' 0 _).setFarG f7' 1 _).setFarG f7' 2 _).setFarG f5' 0 _).setFarG f5' 1 _).setFarG f5' 2 _, f5', f7',
      (((((og.setCell hZ _).setCell hZ _).setCell hZ _).setCell (by simp; omega) _).setCell (by simp; omega) _).setCell (by simp; omega) _,
      (((((h.sl.setCell (.inr (by simp)) _).setCell (.inr (by simp)) _).setCell (.inr (by simp)) _).setCell (.inl (by simp)) _).setCell (.inl (by simp)) _).setCell (.inl (by simp)) _,
      (((((h.be.setCell (by simp; omega) _).setCell (by simp; omega) _).setCell (by simp; omega) _).setCell (by simp; omega) _).setCell (by simp; omega) _).setCell (by simp; omega) _, by simpa using hzz⟩
end
set_option maxRecDepth 100000 in
set_option maxHeartbeats 8000000 in
theorem steps_any (A : Option Addr) (n c : Nat) (B : Option Addr) (m d : Nat) (f : Bool) (L : Option Addr) (nl cl : Nat) (xs : List Int) (ys : List Bool) (al : List Acc) (w : World) (hx : Sl u64v 0 w 0 w.heap.size A n xs) (hy : Sl blv false w 0 w.heap.size B m ys) (hnc : n ≤ c) (hmd : m ≤ d)
    (hl : Sm 4 encA (0, 0, 0, 0) w 0 w.heap.size L nl al) (hncl : nl ≤ cl) (hcl : cl ≤ 9223372036854775807) :
    Calls Try.prog 4 #[mv A n c B m d f, .slice L nl cl] w fun e w' => e = .returned (.bool true) ∧ Below w.heap.size w w' := by
  have HX := hid hx; have HY := hid hy; have HL := hid hl; have HB := hid (Below.refl w.heap.size w)
  clear hx hy hl
  have bx := below_box w (.cells #[.slice A n c, .slice B m d, .bool f] 25)
  replace HX := hid (HX.out.step bx); replace HY := hid (HY.out.step bx); replace HL := hid (HL.out.step bx); replace HB := hid (below_then HB.out bx)
  clear bx
  have P3 := hid (Blk.new w 25 #[.slice A n c, .slice B m d, .bool f])
  go_enter Try.func4, Try.ntmps4
  go_wp2_with fail
  generalize w.alloc (.cells #[.slice A n c, .slice B m d, .bool f] 25) = W0 at *
  refine (mwakes_any W0).mono ?_
  rintro e w1 ⟨rfl, hb⟩
  replace HX := hid (HX.out.step hb); replace HY := hid (HY.out.step hb); replace HL := hid (HL.out.step hb); replace P3 := hid (P3.out.step hb); replace HB := hid (below_then HB.out hb)
  clear hb
  obtain ⟨y00, y01, y02, yf0⟩ := P3.out.cells3
  go_wp2_with fail
  clear y00 y01 y02 yf0
  refine (lown_r A n c B m d f xs ys w1 HX.out HY.out hnc hmd).mono ?_
  rintro e w2 ⟨A2, n2, c2, B2, m2, d2, rfl, oa, ob, hb, hn2, hm2⟩
  replace HX := hid (HX.out.step hb); replace HY := hid (HY.out.step hb); replace HL := hid (HL.out.step hb); replace P3 := hid (P3.out.step hb); replace HB := hid (below_then HB.out hb)
  clear hb
  have HM := hid (Mem.ofOw oa ob (by omega) (by omega))
  have HFA := hid (show ∀ a, A2 = some a → a.block < w2.heap.size from fun a ha => by subst ha; exact (oa.own.lt a.block rfl).2)
  have HFB := hid (show ∀ a, B2 = some a → a.block < w2.heap.size from fun a ha => by subst ha; exact (ob.own.lt a.block rfl).2)
  clear oa ob
  have HX2 := HX; have HY2 := HY; have P32 := P3; have HB2 := HB; have HBb := hid (Below.refl w2.heap.size w2)
  have bx := below_box w2 (.cells #[.slice A2 n2 c2, .slice B2 m2 d2, .bool f] 25)
  replace HX := hid (HX.out.step bx); replace HY := hid (HY.out.step bx); replace HL := hid (HL.out.step bx); replace P3 := hid (P3.out.step bx); replace HM := hid (HM.out.step bx); replace HB := hid (below_then HB.out bx); replace HBb := hid (below_then HBb.out bx)
  clear bx
  have P5 := hid (Blk.new w2 25 #[.slice A2 n2 c2, .slice B2 m2 d2, .bool f])
  go_upto_region 4 with fail
  have hz3 := hid (show (w2.alloc (.cells #[.slice A2 n2 c2, .slice B2 m2 d2, .bool f] 25)).heap.size = w2.heap.size + 1 by simp)
  generalize w2.alloc (.cells #[.slice A2 n2 c2, .slice B2 m2 d2, .bool f] 25) = W3 at *
  go_cut [1] (fun s1 wx => ∃ L' n' c', s1 = .slice L' n' c' ∧ n' ≤ 16 ∧ Om 4 encA wx W3.heap.size 44 L' n' c' (al.take 16) ∧ Below W3.heap.size W3 wx)
  case first =>
    rcases Nat.lt_or_ge 16 nl with h16 | h16
    · have h1 : (16 : Int) < (nl : Int) := by omega
      have h2 : (16 : Int) ≤ (cl : Int) := by omega
      have hLc := hid (HL.out.take (show 16 ≤ nl by omega))
      go_wp2_with fail
      refine (clone_acc L 16 cl 0 (al.take 16) W3 hLc.out (by omega)).mono ?_
      rintro e w3 ⟨L', c', rfl, ho, hb⟩
      have HO := hid ho; have HBx := hid hb
      clear ho hb
      go_wp2
      go_meet
      exact ⟨L', 16, c', rfl, Nat.le_refl _, HO.out, HBx.out⟩
    · have h1 : ¬ (16 : Int) < (nl : Int) := by omega
      have h2 : (nl : Int) ≤ (cl : Int) := by omega
      have h3 : (0 : Int) ≤ (nl : Int) := by omega
      have hLc := hid (show Sm 4 encA (0, 0, 0, 0) W3 0 W3.heap.size L nl (al.take 16) by rw [List.take_of_length_le (by have := HL.out.len; omega)]; exact HL.out)
      go_wp2_with fail
      refine (clone_acc L nl cl 0 (al.take 16) W3 hLc.out (by omega)).mono ?_
      rintro e w3 ⟨L', c', rfl, ho, hb⟩
      have HO := hid ho; have HBx := hid hb
      clear ho hb
      go_wp2
      go_meet
      exact ⟨L', nl, c', rfl, h16, HO.out, HBx.out⟩
  case rest =>
    obtain ⟨L3, n3, c3, rfl, hn3, ol, hb⟩ := hcut
    rename World => W4
    clear HL
    replace HX := hid (HX.out.step hb); replace HY := hid (HY.out.step hb); replace P3 := hid (P3.out.step hb); replace HM := hid (HM.out.step hb); replace P5 := hid (P5.out.step hb); replace HB := hid (below_then HB.out hb); replace HBb := hid (below_then HBb.out hb)
    have HL := hid (ol.sm (d := ((0, 0, 0, 0) : Acc)))
    have hl3 := hid ol.len
    have hz4 := hid hb.size
    clear hb ol
    generalize al.take 16 = al at *
    generalize hws : xs.take 64 = ws at *
    generalize hls : ys.take 64 = ls at *
    have HWS := hid hws; have HLS := hid hls
    clear hws hls
    obtain ⟨y00, y01, y02, yf0⟩ := P5.out.cells3
    go_wp2_with fail
    clear y00 y01 y02 yf0
    refine (rright_any A2 n2 c2 B2 m2 d2 f ws ls W4 HM.out).mono ?_
    rintro e W5 ⟨rfl, hb⟩
    replace HX := hid (HX.out.step hb); replace HY := hid (HY.out.step hb); replace P3 := hid (P3.out.step hb); replace HM := hid (HM.out.step hb); replace P5 := hid (P5.out.step hb); replace HL := hid (HL.out.step hb); replace HB := hid (below_then HB.out hb); replace HBb := hid (below_then HBb.out hb)
    clear hb
    obtain ⟨bR, hbR⟩ : ∃ b, b = decide (MGood ws ls) := ⟨_, rfl⟩
    rw [← hbR]
    have HBR := hid hbR
    clear hbR
    obtain ⟨y00, y01, y02, yf0⟩ := P3.out.cells3
    go_wp2_with fail
    clear y00 y01 y02 yf0
    refine (lown_r A n c B m d f xs ys W5 HX.out HY.out hnc hmd).mono ?_
    rintro e w6 ⟨A7, n7, c7, B7, m7, d7, rfl, oa, ob, hb, hn7, hm7⟩
    have hb56 := hb; have h5b := hid P5.out.lt
    replace HX := hid (HX.out.step hb); replace HY := hid (HY.out.step hb); replace P3 := hid (P3.out.step hb); replace HM := hid (HM.out.step hb); replace P5 := hid (P5.out.step hb); replace HL := hid (HL.out.step hb); replace HB := hid (below_then HB.out hb); replace HBb := hid (below_then HBb.out hb)
    clear hb
    rw [HWS.out] at oa; rw [HLS.out] at ob
    have h56 := hid hb56.size
    clear hb56
    have MA := hid (Mem.ofOw oa ob (by omega) (by omega))
    have HF7 := hid (show ∀ g, (g ≤ W5.heap.size ∧ g < W5.heap.size) ∨ w6.heap.size ≤ g → FarG n7 A7 m7 B7 g from fun g hg => ⟨fun _ a ha => by subst ha; have h1 := (oa.own.lt a.block rfl); omega, fun _ a ha => by subst ha; have h1 := (ob.own.lt a.block rfl); omega⟩)
    clear oa ob
    have HLW := hid (fun W (hb : Below w6.heap.size w6 W) => HL.out.below hb (Nat.le_refl _)); have HB6 := hid (Below.refl w6.heap.size w6)
    clear HL
    have bx := below_box w6 (.cells #[.slice A7 n7 c7, .slice B7 m7 d7, .bool f] 25)
    replace HX := hid (HX.out.step bx); replace HY := hid (HY.out.step bx); replace P3 := hid (P3.out.step bx); replace HM := hid (HM.out.step bx); replace P5 := hid (P5.out.step bx); replace MA := hid (MA.out.step bx); replace HB := hid (below_then HB.out bx); replace HBb := hid (below_then HBb.out bx); replace HB6 := hid (below_then HB6.out bx)
    clear bx
    have P7 := hid (Blk.new w6 25 #[.slice A7 n7 c7, .slice B7 m7 d7, .bool f])
    go_wp2_with fail
    have hz7 := hid (show (w6.alloc (.cells #[.slice A7 n7 c7, .slice B7 m7 d7, .bool f] 25)).heap.size = w6.heap.size + 1 by simp)
    generalize w6.alloc (.cells #[.slice A7 n7 c7, .slice B7 m7 d7, .bool f] 25) = W7 at *
    have h5 := hid P5.out.lt; have h7 := hid P7.out.lt
    have h25 := hid (show w2.heap.size < w6.heap.size by have := h56.out; have := h5b.out; omega)
    have HT := hid (⟨P5.out, HM.out, ⟨fun _ a ha => by have := HFA.out a ha; omega, fun _ a ha => by have := HFB.out a ha; omega⟩, ⟨fun _ a ha => by have := HFA.out a ha; have := h25.out; omega, fun _ a ha => by have := HFB.out a ha; have := h25.out; omega⟩, P7.out, MA.out, HF7.out _ (.inl ⟨by have := h5b.out; omega, by have := h5b.out; omega⟩), HF7.out _ (.inr (Nat.le_refl _)), Om.nil _ _ _, (HLW.out _ HB6.out).mono (by have := hz3.out; omega) (Nat.le_refl _), HBb.out, Nat.le_refl _⟩ : StRel w2 w2.heap.size w6.heap.size W7.heap.size L3 n3 al W7 A2 n2 c2 B2 m2 d2 (ws, ls, f) A7 n7 c7 B7 m7 d7 (ws, ls, f) none 0 0 [])
    have HP0 := hid (PInv.zero (s0 := (ws, ls, f)) (al := al) (by show ws.length ≤ 64; rw [HM.out.lenx]; exact hn2) (by show ls.length ≤ 64; rw [HM.out.leny]; exact hm2))
    have hZ := hid (show w2.heap.size < W7.heap.size ∧ w6.heap.size < W7.heap.size from ⟨h5.out, h7.out⟩)
    clear HX HY P3 HM P5 MA HB P7 HBb HLW HB6 HF7 h5 h7 hz7
    go_loopw [38, 8, 9] (fun i s8 s9 wr => ∃ j : Nat, ∃ A n c B m d s A' n' c' B' m' d' code sA G ng cg gs, j ≤ n3 ∧ i = .int .i64 j ∧ s8 = .int .i64 code ∧ s9 = .slice G ng cg ∧ ng ≤ j ∧ PInv (ws, ls, f) al j s code sA gs ∧ StRel w2 w2.heap.size w6.heap.size W7.heap.size L3 n3 al wr A n c B m d s A' n' c' B' m' d' sA G ng cg gs) (fun i _ _ _ => n3 - (intOf i).toNat)
    case atStart => exact ⟨0, _, _, _, _, _, _, _, _, _, _, _, _, _, _, _, _, _, _, _, Nat.zero_le _, rfl, rfl, rfl, Nat.le_refl _, HP0.out, HT.out⟩
    case round =>
      obtain ⟨j, Aq, nq, cq, Bq, mq, dq, ⟨ws', ls', f'⟩, A', n', c', B', m', d', code, sA, G, ng, cg, gs, hj, rfl, rfl, rfl, hng, hpi, T⟩ := hrel
      clear HT HP0
      have HPI := hid hpi
      clear hpi
      by_cases hjl : j < n3
      · obtain ⟨bl, offl, rfl, hbl, hbB, hc⟩ := T.sl.row (by omega)
        have g0 := hc j hjl 0 (by omega)
        have g1 := hc j hjl 1 (by omega)
        have g2 := hc j hjl 2 (by omega)
        have g3 := hc j hjl 3 (by omega)
        obtain ⟨⟨ka, at_, old, new⟩, hX⟩ : ∃ x, x = al[j]?.getD (0, 0, 0, 0) := ⟨_, rfl⟩
        rw [← hX] at g0 g1 g2 g3
        simp only [encA, Nat.add_zero] at g0 g1 g2 g3
        have HX := hid hX
        have HT := hid T
        clear T hX hc
        have bx := below_box wr (.cells #[.int .i64 ka, .int .i64 at_, .int .u64 old, .int .u64 new] 44)
        replace HT := hid (HT.out.step bx)
        clear bx
        have PA := hid (Blk.new wr 44 #[.int .i64 ka, .int .i64 at_, .int .u64 old, .int .u64 new])
        have P5 := hid HT.out.p5
        obtain ⟨y00, y01, y02, yf0⟩ := P5.out.cells3
        obtain ⟨y10, y11, y12, y13, yf1⟩ := PA.out.cells4
        go_wp2_with fail
        clear g0 g1 g2 g3 y00 y01 y02 yf0 y10 y11 y12 y13 yf1
        generalize wr.alloc (.cells #[.int .i64 ka, .int .i64 at_, .int .u64 old, .int .u64 new] 44) = W1 at *
        have HL := hid (Below.refl W1.heap.size W1)
        obtain ⟨r, hr⟩ : ∃ r, r = accF (ws', ls', f') (ka, at_, old, new) := ⟨_, rfl⟩
        have hst := mstep_any Aq nq cq Bq mq dq f' ka at_ old new ws' ls' W1 HT.out.mm
        rw [← hr] at hst
        have HR := hid hr
        clear hr
        obtain ⟨code8, ⟨ws8, ls8, f8⟩, gx, gy⟩ := r
        refine hst.mono ?_
        clear hst
        rintro e w8 ⟨A8, n8, c8, B8, m8, d8, rfl, o8, hb⟩
        dsimp only at o8 ⊢
        have hW18 := hid hb.size
        have h8a := hid (show ∀ a, A8 = some a → a.block < w8.heap.size from fun a ha => by subst ha; exact (o8.oa.own.lt a.block rfl).2)
        have h8b := hid (show ∀ a, B8 = some a → a.block < w8.heap.size from fun a ha => by subst ha; exact (o8.ob.own.lt a.block rfl).2)
        have hl8 := hid (accF_len (ws', ls', f') (ka, at_, old, new) HPI.out.1 HPI.out.2.1)
        rw [← HR.out] at hl8
        have O8 := hid o8
        clear o8
        replace HL := hid (below_then HL.out hb)
        clear hb
        have bx := below_box w8 (.cells #[.slice A8 n8 c8, .slice B8 m8 d8, .bool f8] 25)
        replace O8 := hid (O8.out.step bx); replace HL := hid (below_then HL.out bx)
        clear bx
        have P12 := hid (Blk.new w8 25 #[.slice A8 n8 c8, .slice B8 m8 d8, .bool f8])
        have bx := below_box (w8.alloc (.cells #[.slice A8 n8 c8, .slice B8 m8 d8, .bool f8] 25)) (.cells #[.int .u64 gx, .bool gy] 47)
        replace O8 := hid (O8.out.step bx); replace P12 := hid (P12.out.step bx); replace HL := hid (below_then HL.out bx)
        clear bx
        have P13 := hid (Blk.new2 w8 47 #[.int .u64 gx, .bool gy] (.cells #[.slice A8 n8 c8, .slice B8 m8 d8, .bool f8] 25))
        have hzb := hid (show ((w8.alloc (.cells #[.slice A8 n8 c8, .slice B8 m8 d8, .bool f8] 25)).alloc (.cells #[.int .u64 gx, .bool gy] 47)).heap.size = w8.heap.size + 2 by simp)
        go_upto_region 12 with fail
        generalize (w8.alloc (.cells #[.slice A8 n8 c8, .slice B8 m8 d8, .bool f8] 25)).alloc (.cells #[.int .u64 gx, .bool gy] 47) = Wb at *
        have HWb := hid (Below.refl Wb.heap.size Wb)
        have bx := below_box Wb (.cells #[.slice none 0 0, .slice none 0 0, .bool false] 25)
        replace HWb := hid (below_then HWb.out bx)
        clear bx
        have P15 := hid (Blk.new Wb 25 #[.slice none 0 0, .slice none 0 0, .bool false])
        have bx := below_box (Wb.alloc (.cells #[.slice none 0 0, .slice none 0 0, .bool false] 25)) (.cells #[.int .u64 0, .bool false] 47)
        replace P15 := hid (P15.out.step bx); replace HWb := hid (below_then HWb.out bx)
        clear bx
        have P16 := hid (Blk.new2 Wb 47 #[.int .u64 0, .bool false] (.cells #[.slice none 0 0, .slice none 0 0, .bool false] 25))
        go_upto_if 49 with fail
        generalize (Wb.alloc (.cells #[.slice none 0 0, .slice none 0 0, .bool false] 25)).alloc (.cells #[.int .u64 0, .bool false] 47) = W2 at *
        go_cut [17] (fun s17 wx => ∃ A15 n15 c15 B15 m15 d15, s17 = .int .i64 code8 ∧ Blk wx Wb.heap.size 25 (mcs A15 n15 c15 B15 m15 d15 f8) ∧ Mem wx A15 n15 c15 B15 m15 d15 ws8 ls8 ∧ Blk wx (Wb.heap.size + 1) 47 #[.int .u64 gx, .bool gy] ∧ Below Wb.heap.size Wb wx)
        case first =>
          rcases bR with _ | _
          · obtain ⟨he, _⟩ := HPI.out.2.2.2 (of_decide_eq_false HBR.out.symm)
            simp only [Prod.mk.injEq] at he
            obtain ⟨rfl, rfl, rfl⟩ := he
            have E := HR.out
            rw [accF, if_pos (of_decide_eq_false HBR.out.symm)] at E
            simp only [Prod.mk.injEq] at E
            obtain ⟨rfl, ⟨rfl, rfl, rfl⟩, rfl, rfl⟩ := E
            go_wp2
            go_meet
            exact ⟨none, 0, 0, none, 0, 0, rfl, P15.out, (Mown.none _ 0).mem, P16.out, HWb.out⟩
          · have hg := (HPI.out.2.2.1 (of_decide_eq_true HBR.out.symm)).1
            have E := HR.out
            rw [accF, if_neg (not_not_intro hg)] at E
            have HG := hid hg; have HE := hid E
            clear hg E
            obtain ⟨y0, y1, y2, y3, yf⟩ := (PA.out.step (below_then HL.out HWb.out)).cells4
            go_wp2_with fail
            clear y0 y1 y2 y3 yf
            refine (rkind_any ka at_ old new _).mono ?_
            rintro e w10 ⟨rfl, hb⟩
            replace P15 := hid (P15.out.step hb); replace P16 := hid (P16.out.step hb); replace HWb := hid (below_then HWb.out hb)
            clear hb
            by_cases hk : 1 ≤ ka ∧ ka ≤ 3
            · rw [decide_eq_true hk]
              have E := HE.out
              rw [if_neg (by omega)] at E
              simp only [Prod.mk.injEq] at E
              obtain ⟨rfl, E⟩ := E
              have HE2 := hid E
              clear E hk
              go_wp2_with fail
              have hB10 := below_then HL.out HWb.out
              have HP5 := hid (HT.out.p5.step hB10); have HPA := hid (PA.out.step hB10); have HMM := hid (HT.out.mm.step hB10)
              have hlt5 : w2.heap.size < Wb.heap.size := Nat.lt_of_lt_of_le HT.out.p5.lt HL.out.size
              have hltA : wr.heap.size < Wb.heap.size := Nat.lt_of_lt_of_le PA.out.lt HL.out.size
              have H64a := hid HPI.out.1; have H64b := hid HPI.out.2.1
              have hGl := hid HG.out.1.2.2
              clear hB10
              have HSB : Hid (∀ W, Blk W w2.heap.size 25 (mcs Aq nq cq Bq mq dq f') → Blk W wr.heap.size 44 #[.int .i64 ka, .int .i64 at_, .int .u64 old, .int .u64 new] → (W.cell? ⟨w2.heap.size, 0, none⟩ = some (.slice Aq nq cq) ∧ W.cell? ⟨w2.heap.size, 1, none⟩ = some (.slice Bq mq dq) ∧ W.cell? ⟨w2.heap.size, 2, none⟩ = some (.bool f') ∧ W.cell? ⟨wr.heap.size, 0, none⟩ = some (.int .i64 ka) ∧ W.cell? ⟨wr.heap.size, 1, none⟩ = some (.int .i64 at_) ∧ W.cell? ⟨wr.heap.size, 2, none⟩ = some (.int .u64 old) ∧ W.cell? ⟨wr.heap.size, 3, none⟩ = some (.int .u64 new))) :=
                hid (fun W h1 h2 => ⟨h1.cells3.1, h1.cells3.2.1, h1.cells3.2.2.1, h2.cells4.1, h2.cells4.2.1, h2.cells4.2.2.1, h2.cells4.2.2.2.1⟩)
              obtain ⟨y0, y1, y2, yf⟩ := HP5.out.cells3
              obtain ⟨z0, z1, z2, z3, zf⟩ := HPA.out.cells4
              have HB11 : Hid (∀ W, Below w10.heap.size w10 W → Blk W w2.heap.size 25 (mcs Aq nq cq Bq mq dq f') ∧ Blk W wr.heap.size 44 #[.int .i64 ka, .int .i64 at_, .int .u64 old, .int .u64 new] ∧ Mem W Aq nq cq Bq mq dq ws' ls' ∧ Blk W Wb.heap.size 25 #[.slice none 0 0, .slice none 0 0, .bool false] ∧ Blk W (Wb.heap.size + 1) 47 #[.int .u64 0, .bool false]) := hid (fun W hb => ⟨HP5.out.step hb, HPA.out.step hb, HMM.out.step hb, P15.out.step hb, P16.out.step hb⟩)
              go_region_held3 (fun W => W.cell? ⟨w2.heap.size, 0, none⟩ = some (.slice Aq nq cq) ∧ W.cell? ⟨w2.heap.size, 1, none⟩ = some (.slice Bq mq dq) ∧ W.cell? ⟨w2.heap.size, 2, none⟩ = some (.bool f') ∧ W.cell? ⟨wr.heap.size, 0, none⟩ = some (.int .i64 ka) ∧ W.cell? ⟨wr.heap.size, 1, none⟩ = some (.int .i64 at_) ∧ W.cell? ⟨wr.heap.size, 2, none⟩ = some (.int .u64 old) ∧ W.cell? ⟨wr.heap.size, 3, none⟩ = some (.int .u64 new))
                (first | (with_reducible exact HSB.out _ HP5.out.drew HPA.out.drew) | (with_reducible exact HSB.out _ b11.1 b11.2.1) | (with_reducible exact HSB.out _ b12.1 b12.2.1) | (exact HSB.out _ (by repeat (first | (with_reducible exact b12.1) | (with_reducible refine Blk.far ?_ (by simp; omega) _))) (by repeat (first | (with_reducible exact b12.2.1) | (with_reducible refine Blk.far ?_ (by simp; omega) _)))))
                (first
                  | (go_at_call 9; go_split_ands; (with_reducible refine (lown_r Aq nq cq Bq mq dq f' ws' ls' w10.drew (HB11.out _ (Below.refl _ _).drew).2.2.1.hx (HB11.out _ (Below.refl _ _).drew).2.2.1.hy (HB11.out _ (Below.refl _ _).drew).2.2.1.hnc (HB11.out _ (Below.refl _ _).drew).2.2.1.hmd).mono ?_); rintro e w11 ⟨A11, n11, c11, B11, m11, d11, rfl, oa, ob, hb11, hn11, hm11⟩; rw [List.take_of_length_le H64a.out] at oa; rw [List.take_of_length_le H64b.out] at ob; have hq11 := below_then (Below.refl w10.heap.size w10).drew hb11; have b11 := HB11.out _ hq11)
                  | (go_at_call 22; go_split_ands; have hst := rstep_any A11 n11 c11 B11 m11 d11 f' ws' ls' ka at_ old new w11 (Mem.ofOw oa ob (by omega) (by omega)) (by rw [← oa.len, ← ob.len]; exact hGl.out); rw [← HE2.out] at hst; (with_reducible refine hst.mono ?_); clear hst; rintro e w12 ⟨A12, c12, B12, d12, rfl, hm12, hb12, hf12⟩; have hq12 := below_then hq11 hb12; have b12 := HB11.out _ hq12; obtain ⟨t0, t1, t2, tf⟩ := b12.2.2.2.1.cells3; obtain ⟨v0, v1, vf⟩ := b12.2.2.2.2.cells2))
              have HM12 := hid hm12; have HB12 := hid hq12; have H15 := hid b12.2.2.2.1; have H16 := hid b12.2.2.2.2
              have HF12 := hid (show ∀ g, g < w10.heap.size → FarM n11 A12 B12 g from fun g hg => hf12 g (Nat.lt_of_lt_of_le hg hq11.size) fun _ => ⟨fun a ha => by subst ha; have := oa.ge; have h1 := (Below.refl w10.heap.size w10).drew.size; omega, fun a ha => by subst ha; have := ob.ge; have h1 := (Below.refl w10.heap.size w10).drew.size; omega⟩)
              have h15 := P15.out.lt; have h16 := P16.out.lt
              clear b12 hq11 hq12 oa ob hb11 hb12 hm12 hf12
              go_wp2
              go_meet
              have f15 := HF12.out _ h15; have f16 := HF12.out _ h16
              exact ⟨A12, n11, c12, B12, n11, d12, rfl, ((((H15.out.setCell 0 _).setCell 1 _).setCell 2 _).far (by simp) _).far (by simp) _, ((((HM12.out.setFar f15 0 _).setFar f15 1 _).setFar f15 2 _).setFar f16 0 _).setFar f16 1 _, ((((H16.out.far (by simp) _).far (by simp) _).far (by simp) _).setCell 0 _).setCell 1 _, (((((below_then HWb.out HB12.out).setCell (Nat.le_refl _) _).setCell (Nat.le_refl _) _).setCell (Nat.le_refl _) _).setCell (by simp) _).setCell (by simp) _⟩
            · rw [decide_eq_false hk]
              have E := HE.out
              rw [if_pos (by omega)] at E
              simp only [Prod.mk.injEq] at E
              obtain ⟨rfl, ⟨rfl, rfl, rfl⟩, rfl, rfl⟩ := E
              clear hk
              go_wp2
              go_meet
              exact ⟨none, 0, 0, none, 0, 0, rfl, P15.out, (Mown.none _ 0).mem, P16.out, HWb.out⟩
        case rest =>
          obtain ⟨A15, n15, c15, B15, m15, d15, rfl, P15x, M15x, P16x, hWx⟩ := hcut
          rename World => W3
          clear P15 P16 HWb
          have P15 := hid P15x; have M15 := hid M15x; have P16 := hid P16x
          clear P15x M15x P16x
          replace O8 := hid (O8.out.step hWx); replace P12 := hid (P12.out.step hWx); replace P13 := hid (P13.out.step hWx); replace HL := hid (below_then HL.out hWx)
          clear hWx
          have hcc : (code8 != code8) = false := by simp
          have hng1 := neq_got gx gy gx gy
          rw [decide_eq_false (not_not_intro rfl)] at hng1
          obtain ⟨y00, y01, y02, yf0⟩ := P12.out.cells3
          obtain ⟨y10, y11, yf1⟩ := P13.out.cells2
          obtain ⟨y20, y21, y22, yf2⟩ := P15.out.cells3
          obtain ⟨y30, y31, yf3⟩ := P16.out.cells2
          go_wp2_with fail
          clear y00 y01 y02 yf0 y10 y11 yf1 y20 y21 y22 yf2 y30 y31 yf3 hng1 hcc
          refine (rmsame_any A8 n8 c8 B8 m8 d8 f8 ws8 ls8 A15 n15 c15 B15 m15 d15 f8 ws8 ls8 _ O8.out.mem M15.out).mono ?_
          rintro e Wn ⟨rfl, hb⟩
          replace O8 := hid (O8.out.step hb); replace P12 := hid (P12.out.step hb); replace P13 := hid (P13.out.step hb); replace P15 := hid (P15.out.step hb); replace M15 := hid (M15.out.step hb); replace HL := hid (below_then HL.out hb)
          clear hb
          rw [show sameM (ws8, ls8, f8) (ws8, ls8, f8) = true by simp [sameM]]
          clear P15 M15
          clear P16
          obtain ⟨y00, y01, y02, yf0⟩ := P12.out.cells3
          go_wp2_with fail
          clear y00 y01 y02 yf0
          refine (lown_r A8 n8 c8 B8 m8 d8 f8 ws8 ls8 Wn O8.out.mem.hx O8.out.mem.hy O8.out.mem.hnc O8.out.mem.hmd).mono ?_
          rintro e w22 ⟨A18, n18, c18, B18, m18, d18, rfl, oa, ob, hb, hn18, hm18⟩
          have hn8 := hid (show w8.heap.size + 2 ≤ Wn.heap.size from P13.out.lt)
          have hn22 := hid hb.size; have hW1n := hid HL.out.size
          replace O8 := hid (O8.out.step hb); replace P12 := hid (P12.out.step hb); replace P13 := hid (P13.out.step hb); replace HL := hid (below_then HL.out hb)
          clear hb
          rw [List.take_of_length_le hl8.out.1] at oa; rw [List.take_of_length_le hl8.out.2] at ob
          have OA := hid oa; have OB := hid ob
          clear oa ob
          have bx := below_box w22 (.cells #[.slice A18 n18 c18, .slice B18 m18 d18, .bool f8] 25)
          replace O8 := hid (O8.out.step bx); replace P12 := hid (P12.out.step bx); replace P13 := hid (P13.out.step bx); replace OA := hid (OA.out.step bx); replace OB := hid (OB.out.step bx); replace HL := hid (below_then HL.out bx)
          clear bx
          have P18 := hid (Blk.new w22 25 #[.slice A18 n18 c18, .slice B18 m18 d18, .bool f8])
          obtain ⟨y00, y01, y02, yf0⟩ := P12.out.cells3
          go_wp2_with fail
          clear y00 y01 y02 yf0
          generalize w22.alloc (.cells #[.slice A18 n18 c18, .slice B18 m18 d18, .bool f8] 25) = W4 at *
          refine (spoil_any W1.heap.size A8 n8 c8 B8 m8 d8 f8 ws8 ls8 W4 O8.out HL.out.size).mono ?_
          rintro e w23 ⟨⟨v, rfl⟩, hb, hs⟩
          have HL1 := hid (HL.out.trans hb)
          have T := hid (HT.out.step HL1.out)
          have Q13 := hid (P13.out.spared hs (fun a ha => by have := h8a.out a ha; omega) (fun a ha => by have := h8b.out a ha; omega))
          have Q18 := hid (P18.out.spared hs (fun a ha => by have := h8a.out a ha; have := hn8.out; have := hn22.out; omega) (fun a ha => by have := h8b.out a ha; have := hn8.out; have := hn22.out; omega))
          have QA := hid (OA.out.spared hs (fun a x ha hx => by subst hx; have := OA.out.ge; have := h8a.out a ha; have := hn8.out; omega) (fun a x ha hx => by subst hx; have := OA.out.ge; have := h8b.out a ha; have := hn8.out; omega))
          have QB := hid (OB.out.spared hs (fun a x ha hx => by subst hx; have := OB.out.ge; have := h8a.out a ha; have := hn8.out; omega) (fun a x ha hx => by subst hx; have := OB.out.ge; have := h8b.out a ha; have := hn8.out; omega))
          have hg7 := hid (show w6.heap.size < W1.heap.size from HT.out.p7.lt)
          have hZW := hid HT.out.zz
          have hF18 := hid (show ∀ g, g < W1.heap.size → FarG n18 A18 m18 B18 g from fun g hg => ⟨fun _ a ha => by subst ha; have := OA.out.ge; have := hW1n.out; omega, fun _ a ha => by subst ha; have := OB.out.ge; have := hW1n.out; omega⟩)
          have hGlt := hid (show ∀ k, (Value.slice G ng cg).ownBlock = some k → k < W1.heap.size from fun k hk => HT.out.og.lt k hk)
          have HP1 := hid (HPI.out.step (by rw [hl3.out]; exact hjl) HX.out HR.out)
          dsimp only at HP1
          clear hb hs HL HT P13 P18 OA OB P12 O8 h8a h8b hl8 HR HX HPI
          by_cases hc : code = 0
          · subst hc
            by_cases h8 : code8 = 0
            · subst h8
              have HP2 := hid (show PInv (ws, ls, f) al (j + 1) (ws8, ls8, f8) 0 (ws8, ls8, f8) (gs ++ [(gx, gy)]) by simpa using HP1.out)
              clear HP1
              go_wp2_with fail
              have K0 := hid (⟨T.out.p5, T.out.p7, T.out.sl, T.out.be, Q13.out, Q18.out⟩ : Kp w2 w2.heap.size w6.heap.size (some ⟨bl, offl, none⟩) n3 al w23 _ _ (w8.heap.size + 1) w22.heap.size _ _)
              have HKW : Hid (∀ W, Below w23.heap.size w23 W → Mem W A18 n18 c18 B18 m18 d18 ws8 ls8 ∧ Kp w2 w2.heap.size w6.heap.size (some ⟨bl, offl, none⟩) n3 al W (mcs Aq nq cq Bq mq dq f') (mcs A' n' c' B' m' d' sA.2.2) (w8.heap.size + 1) w22.heap.size #[.int .u64 gx, .bool gy] (mcs A18 n18 c18 B18 m18 d18 f8) ∧ Om 2 encG W W7.heap.size 47 G ng cg gs) := hid (fun W hb => ⟨(show Mem w23 A18 n18 c18 B18 m18 d18 ws8 ls8 from Mem.ofOw QA.out QB.out (by omega) (by omega)).step hb, K0.out.step hb, T.out.og.step hb⟩)
              have HSK : Hid (∀ W c5 c7, Kp w2 w2.heap.size w6.heap.size (some ⟨bl, offl, none⟩) n3 al W c5 c7 (w8.heap.size + 1) w22.heap.size #[.int .u64 gx, .bool gy] (mcs A18 n18 c18 B18 m18 d18 f8) → (W.cell? ⟨w22.heap.size, 0, none⟩ = some (.slice A18 n18 c18) ∧ W.cell? ⟨w22.heap.size, 1, none⟩ = some (.slice B18 m18 d18) ∧ W.cell? ⟨w22.heap.size, 2, none⟩ = some (.bool f8) ∧ W.cell? ⟨w8.heap.size + 1, 0, none⟩ = some (.int .u64 gx) ∧ W.cell? ⟨w8.heap.size + 1, 1, none⟩ = some (.bool gy))) := hid (fun W c5 c7 h => ⟨h.p18.cells3.1, h.p18.cells3.2.1, h.p18.cells3.2.2.1, h.p13.cells2.1, h.p13.cells2.2.1⟩)
              have hncd : Hid (n18 ≤ c18 ∧ m18 ≤ d18) := hid ⟨QA.out.cap.1, QB.out.cap.1⟩
              have HC2 : Hid (∀ j, j < 2 → (#[.int .u64 gx, .bool gy] : Array Value)[j]? = some (encG (gx, gy) j)) := hid (by intro j hj; match j, hj with | 0, _ => rfl | 1, _ => rfl)
              obtain ⟨i0, hi0, hz00, hz01, hz02⟩ := info_parts info_got
              obtain ⟨y0, y1, y2, yf⟩ := Q18.out.cells3
              obtain ⟨z0, z1, zf⟩ := Q13.out.cells2
              have hng16 : ng ≤ 16 := by omega
              have hZ25 := hid (show W7.heap.size ≤ w23.heap.size from by have := hZW.out; have := HL1.out.size; omega)
              have hGrow := hid (show ∀ k, (Value.slice G ng cg).ownBlock = some k → w2.heap.size ≤ k ∧ w2.heap.size < k ∧ w6.heap.size < k ∧ k < w8.heap.size + 1 ∧ k < w22.heap.size from fun k hk => by have := hGlt.out k hk; have := T.out.og.row_ge k hk; have := hZ.out; have := hn8.out; have := hn22.out; have := hW1n.out; have := hW18.out; omega)
              have hGlw := hid (show ∀ k, (Value.slice G ng cg).ownBlock = some k → k < Wn.heap.size from fun k hk => by have := hGlt.out k hk; have := hW1n.out; omega)
              have hGl3 := hid (show ∀ k, (Value.slice G ng cg).ownBlock = some k → k < w23.heap.size from fun k hk => by have := (hGrow.out k hk).2.2.2.2; have := Q18.out.lt; omega)
              have HN := hid (show w2.heap.size ≤ w6.heap.size ∧ w2.heap.size < w6.heap.size ∧ w6.heap.size < w8.heap.size + 1 ∧ w6.heap.size < w22.heap.size from by have := h25.out; have := hg7.out; have := hW18.out; have := hn8.out; have := hn22.out; have := hW1n.out; omega)
              go_region_held3 (fun W => W.cell? ⟨w22.heap.size, 0, none⟩ = some (.slice A18 n18 c18) ∧ W.cell? ⟨w22.heap.size, 1, none⟩ = some (.slice B18 m18 d18) ∧ W.cell? ⟨w22.heap.size, 2, none⟩ = some (.bool f8) ∧ W.cell? ⟨w8.heap.size + 1, 0, none⟩ = some (.int .u64 gx) ∧ W.cell? ⟨w8.heap.size + 1, 1, none⟩ = some (.bool gy))
                (first | (with_reducible exact HSK.out _ _ _ (HKW.out _ (Below.refl _ _).drew).2.1) | (with_reducible exact HSK.out _ _ _ (HKW.out _ (below_box w23 _).drew).2.1) | (with_reducible exact HSK.out _ _ _ (HKW.out _ (below_box w23 _)).2.1) | (with_reducible exact HSK.out _ _ _ k24.out.2.1) | (with_reducible exact HSK.out _ _ _ (k24.out.2.1.step (below_box _ _))) | (with_reducible exact HSK.out _ _ _ kF.out) | (exact HSK.out _ _ _ (((kF.out.set7 HN.out 0 _).set7 HN.out 1 _).set7 HN.out 2 _)) | (with_reducible exact HSK.out _ _ _ k25.out) | (trace_state; fail))
                (first
                  | (go_at_call 9; go_split_ands; first | (have hqa : Below w23.heap.size w23 w23.drew := (Below.refl _ _).drew; (with_reducible refine (lown_r A18 n18 c18 B18 m18 d18 f8 ws8 ls8 w23.drew (HKW.out _ hqa).1.hx (HKW.out _ hqa).1.hy hncd.out.1 hncd.out.2).mono ?_); rintro e w24 ⟨A24, n24, c24, B24, m24, d24, rfl, oa24, ob24, hb24, hn24, hm24⟩; have hq24 := below_then hqa hb24; have k24 := hid (HKW.out _ hq24); have a24 := hid (oa24.mono (show w23.heap.size ≤ w23.drew.heap.size from Nat.le_refl _)); have b24 := hid (ob24.mono (show w23.heap.size ≤ w23.drew.heap.size from Nat.le_refl _))) | (have hqb : Below w23.heap.size w23 (w23.alloc (.cells #[.int .u64 gx, .bool gy] 47)).drew := (below_box w23 (.cells #[.int .u64 gx, .bool gy] 47)).drew; (with_reducible refine (lown_r A18 n18 c18 B18 m18 d18 f8 ws8 ls8 (w23.alloc (.cells #[.int .u64 gx, .bool gy] 47)).drew (HKW.out _ hqb).1.hx (HKW.out _ hqb).1.hy hncd.out.1 hncd.out.2).mono ?_); rintro e w24 ⟨A24, n24, c24, B24, m24, d24, rfl, oa24, ob24, hb24, hn24, hm24⟩; have hq24 := below_then hqb hb24; have k24 := hid (HKW.out _ hq24); have a24 := hid (oa24.mono hqb.size); have b24 := hid (ob24.mono hqb.size); have x24 := hid ((Sm.one (d := ((0, false) : Int × Bool)) (gx, gy) rfl HC2.out).step (below_then (Below.refl (w23.alloc (.cells #[.int .u64 gx, .bool gy] 47)).heap.size (w23.alloc (.cells #[.int .u64 gx, .bool gy] 47))).drew hb24))) | ((with_reducible refine (lown_r A18 n18 c18 B18 m18 d18 f8 ws8 ls8 w25 m25.out.hx m25.out.hy hncd.out.1 hncd.out.2).mono ?_); rintro e wF ⟨A24, n24, c24, B24, m24, d24, rfl, oa24, ob24, hb24, hn24, hm24⟩; have kF := hid (k25.out.step hb24); have mF := hid (m25.out.step hb24); have nF := hid (Mem.ofOw oa24 ob24 (by omega) (by omega)); have aF := hid (oa24.mono z25.out); have bF := hid (ob24.mono z25.out); have ogF := hid (og25.out.step hb24); obtain ⟨t0, t1, t2, tf⟩ := kF.out.p7.cells3))
                  | ((with_reducible refine at_app ?_); go_split_ands; first | ((refine step_appm 2 encG (0, false) _ rfl _ _ 45 rfl W7.heap.size 47 i0 _ 16 Try.underlying45 hi0 hz00 hz01 hz02 rfl (by omega) G ng cg gs rfl (k24.out.2.2.alloc _) 0 (w24.alloc (.cells #[.int .u64 gx, .bool gy] 47)).heap.size _ 1 _ [(gx, gy)] rfl (Sm.one (gx, gy) rfl HC2.out) encG_one (by simp only [maxLen]; omega) (by omega) (by have := hZ25.out; have := hq24.size; simp; omega) ?_); intro G' cg' wF ogF hgF hatF; have kF := hid ((k24.out.2.1.step (below_box w24 _)).grown hgF (fun k hk => hGrow.out k hk)); have a24' := a24.out.alloc (.cells #[.int .u64 gx, .bool gy] 47); have b24' := b24.out.alloc (.cells #[.int .u64 gx, .bool gy] 47); have mF := hid (Mem.ofOw (((QA.out.step hq24).alloc (.cells #[.int .u64 gx, .bool gy] 47)).grownlo hgF (fun k hk => hGlw.out k hk)) (((QB.out.step hq24).alloc (.cells #[.int .u64 gx, .bool gy] 47)).grownlo hgF (fun k hk => hGlw.out k hk)) (by omega) (by omega)); have aF := hid (a24'.grownlo hgF (fun k hk => hGl3.out k hk)); have bF := hid (b24'.grownlo hgF (fun k hk => hGl3.out k hk)); have nF := hid (Mem.ofOw aF.out bF.out (by omega) (by omega)); have ogF := hid ogF; obtain ⟨t0, t1, t2, tf⟩ := kF.out.p7.cells3) | ((refine step_appm 2 encG (0, false) _ rfl _ _ 45 rfl W7.heap.size 47 i0 _ 16 Try.underlying45 hi0 hz00 hz01 hz02 rfl (by omega) G ng cg gs rfl k24.out.2.2 0 w24.heap.size _ 1 _ [(gx, gy)] rfl x24.out encG_one (by simp only [maxLen]; omega) (by omega) (by have := hZ25.out; have := hq24.size; omega) ?_); intro G' cg' wF ogF hgF hatF; have kF := hid (k24.out.2.1.grown hgF (fun k hk => hGrow.out k hk)); have a24' := a24.out; have b24' := b24.out; have mF := hid (Mem.ofOw ((QA.out.step hq24).grownlo hgF (fun k hk => hGlw.out k hk)) ((QB.out.step hq24).grownlo hgF (fun k hk => hGlw.out k hk)) (by omega) (by omega)); have aF := hid (a24'.grownlo hgF (fun k hk => hGl3.out k hk)); have bF := hid (b24'.grownlo hgF (fun k hk => hGl3.out k hk)); have nF := hid (Mem.ofOw aF.out bF.out (by omega) (by omega)); have ogF := hid ogF; obtain ⟨t0, t1, t2, tf⟩ := kF.out.p7.cells3) | (have hqb : Below w23.heap.size w23 (w23.alloc (.cells #[.int .u64 gx, .bool gy] 47)).drew := (below_box w23 (.cells #[.int .u64 gx, .bool gy] 47)).drew; (refine step_appm 2 encG (0, false) _ rfl _ _ 45 rfl W7.heap.size 47 i0 _ 16 Try.underlying45 hi0 hz00 hz01 hz02 rfl (by omega) G ng cg gs rfl (HKW.out _ hqb).2.2 0 (w23.alloc (.cells #[.int .u64 gx, .bool gy] 47)).drew.heap.size _ 1 _ [(gx, gy)] rfl ((Sm.one (d := ((0, false) : Int × Bool)) (gx, gy) rfl HC2.out).step (Below.refl (w23.alloc (.cells #[.int .u64 gx, .bool gy] 47)).heap.size (w23.alloc (.cells #[.int .u64 gx, .bool gy] 47))).drew) encG_one (by simp only [maxLen]; omega) (by omega) (by have := hZ25.out; have := hqb.size; omega) ?_); intro G' cg' w25 og25 hg25 hat25; have k25 := hid ((HKW.out _ hqb).2.1.grown hg25 (fun k hk => hGrow.out k hk)); have m25 := hid (show Mem w25 A18 n18 c18 B18 m18 d18 ws8 ls8 from Mem.ofOw ((QA.out.step hqb).grownlo hg25 (fun k hk => hGlw.out k hk)) ((QB.out.step hqb).grownlo hg25 (fun k hk => hGlw.out k hk)) (by omega) (by omega)); have z25 := hid (show w23.heap.size ≤ w25.heap.size from Nat.le_trans hqb.size hg25.size); have og25 := hid og25)))
              all_goals
                have K7 := hid (((kF.out.set7 HN.out 0 (.slice A24 n24 c24)).set7 HN.out 1 (.slice B24 m24 d24)).set7 HN.out 2 (.bool f8))
                clear y0 y1 y2 yf z0 z1 zf t0 t1 t2 tf
                obtain ⟨v0, v1, v2, vf⟩ := K7.out.p18.cells3
                obtain ⟨x0, x1, x2, xf⟩ := K7.out.p5.cells3
                go_wp2
                clear v0 v1 v2 vf x0 x1 x2 xf
                go_roundw
                case rel =>
                  have e1 : ws8.take 64 = ws8 := List.take_of_length_le HP2.out.1
                  have e2 : ls8.take 64 = ls8 := List.take_of_length_le HP2.out.2.1
                  have nF2 := nF.out
                  rw [e1, e2] at nF2
                  have hF24 := hid (show ∀ g, g < w23.heap.size → FarG n24 A24 m24 B24 g from fun g hg => ⟨fun _ a ha => by subst ha; have := aF.out.ge; omega, fun _ a ha => by subst ha; have := bF.out.ge; omega⟩)
                  have hs := hid (show w2.heap.size < w23.heap.size ∧ w6.heap.size < w23.heap.size ∧ W7.heap.size ≤ wF.heap.size from by have := Q18.out.lt; have := kF.out.p18.lt; have := HN.out; have := hZW.out; have := hW1n.out; have := hn22.out; omega)
                  exact ⟨j + 1, A18, n18, c18, B18, m18, d18, (ws8, ls8, f8), A24, n24, c24, B24, m24, d24, 0, (ws8, ls8, f8), G', ng + 1, cg', _, by omega, by go_num, rfl, rfl, by omega, HP2.out,
                    kF.out.fin (s1 := (ws8, ls8, f8)) (s2 := (ws8, ls8, f8)) mF.out (hF18.out _ (by have := h25.out; have := hg7.out; omega)) (hF18.out _ hg7.out) nF2 (hF24.out _ hs.out.1) (hF24.out _ hs.out.2.1) ogF.out rfl rfl hs.out.2.2 (Nat.le_refl _) h25.out hZ.out.2⟩
                case measure => simp [intOf]; omega

            · have h8b : (code8 == 0) = false := by simpa using h8
              have HP2 := hid (show PInv (ws, ls, f) al (j + 1) (ws', ls', f') code8 sA gs by simpa [h8] using HP1.out)
              clear HP1 h8
              go_wp2
              go_roundw
              case rel => exact ⟨j + 1, _, _, _, _, _, _, _, _, _, _, _, _, _, _, _, _, _, _, _, by omega, by go_num, rfl, rfl, by omega, HP2.out, T.out⟩
              case measure => simp [intOf]; omega
          · have hcb : (code == 0) = false := by simpa using hc
            by_cases h8 : code8 = 0
            · subst h8
              have HP2 := hid (show PInv (ws, ls, f) al (j + 1) (ws8, ls8, f8) code sA gs by simpa [hc] using HP1.out)
              clear HP1 hc
              obtain ⟨y0, y1, y2, yf⟩ := Q18.out.cells3
              obtain ⟨z0, z1, z2, zf⟩ := T.out.p5.cells3
              go_wp2
              clear y0 y1 y2 yf z0 z1 z2 zf
              go_roundw
              case rel => exact ⟨j + 1, _, _, _, _, _, _, (ws8, ls8, f8), _, _, _, _, _, _, _, _, _, _, _, _, by omega, by go_num, rfl, rfl, by omega, HP2.out, T.out.put5 (s1 := (ws8, ls8, f8)) (show Mem w23 A18 n18 c18 B18 m18 d18 ws8 ls8 from Mem.ofOw QA.out QB.out (by omega) (by omega)) (hF18.out _ (by have := h25.out; have := hg7.out; omega)) (hF18.out _ hg7.out) (Nat.le_refl _) h25.out hZ.out.1⟩
              case measure => simp [intOf]; omega
            · have h8b : (code8 == 0) = false := by simpa using h8
              have HP2 := hid (show PInv (ws, ls, f) al (j + 1) (ws', ls', f') code sA gs by simpa [hc, h8] using HP1.out)
              clear HP1 h8 hc
              go_wp2
              go_roundw
              case rel => exact ⟨j + 1, _, _, _, _, _, _, _, _, _, _, _, _, _, _, _, _, _, _, _, by omega, by go_num, rfl, rfl, by omega, HP2.out, T.out⟩
              case measure => simp [intOf]; omega
      · obtain rfl : j = n3 := by omega
        have HT := hid T
        obtain ⟨code', hc'⟩ : ∃ c', c' = if al.length = 0 ∧ ¬ MGood ws ls then 120 else code := ⟨_, rfl⟩
        have HR := hid (PInv.done (s0 := (ws, ls, f)) (by rw [hl3.out]; exact HPI.out) hc')
        have HC := hid hc'
        have hj16 := hid (show j ≤ 16 from hn3)
        clear T hc' HPI
        rcases Nat.eq_zero_or_pos j with h0 | h0
        · have h0i : (j : Int) = 0 := by omega
          have hl0 := hid (hl3.out.trans h0)
          clear h0
          go_upto_if 98 with fail
          go_cut [8] (fun s8 wx => s8 = .int .i64 code' ∧ wx = wr)
          case first =>
            rcases bR with _ | _
            · have E := HC.out
              rw [if_pos ⟨hl0.out, of_decide_eq_false HBR.out.symm⟩] at E
              subst E
              go_wp2
              go_meet
              exact ⟨rfl, rfl⟩
            · have E := HC.out
              rw [if_neg (fun h => h.2 (of_decide_eq_true HBR.out.symm))] at E
              subst E
              go_wp2
              go_meet
              exact ⟨rfl, rfl⟩
          case rest =>
            obtain ⟨rfl, rfl⟩ := hcut
            rename World => wr
            clear HC h0i hl0
            obtain ⟨⟨rc, ⟨rws, rls, rf⟩, rgs⟩, hr⟩ : ∃ r, r = runMF (ws, ls, f) al := ⟨_, rfl⟩
            have HRM := hid hr
            have HR2 := hid (hr.trans HR.out)
            clear hr HR
            go_upto_if 100 with fail
            go_cut [9] (fun s9 wx => ∃ G ng cg A n c B m d, s9 = .slice G ng cg ∧ ng ≤ 16 ∧ rc = code' ∧ Blk wx w6.heap.size 25 (mcs A n c B m d rf) ∧ Mem wx A n c B m d rws rls ∧ Om 2 encG wx W7.heap.size 47 G ng cg rgs ∧ Sm 4 encA (0, 0, 0, 0) wx 0 wx.heap.size L3 j al ∧ Below w2.heap.size w2 wx)
            case first =>
              by_cases h0 : code' = 0
              · have E := HR2.out
                rw [if_pos h0, if_pos h0] at E
                simp only [Prod.mk.injEq] at E
                obtain ⟨e1, e2, e3⟩ := E
                have e2' := congrArg (fun x : MSt => x.1) e2; have e2b := congrArg (fun x : MSt => x.2.1) e2; have e2c := congrArg (fun x : MSt => x.2.2) e2
                dsimp only at e2' e2b e2c
                have h0b : (code' != 0) = false := by simpa using h0
                have HE := hid e1; have HE1 := hid e2'; have HE2 := hid e2b; have HE3 := hid e2c; have HE4 := hid e3
                clear e1 e2 e2' e2b e2c e3 h0
                go_wp2
                go_meet
                refine ⟨G, ng, cg, A', n', c', B', m', d', rfl, by omega, HE.out, ?_, ?_, ?_, HT.out.sl.mono (Nat.zero_le _) (Nat.le_of_lt HT.out.p7.lt), HT.out.be⟩
                · rw [HE3.out]; exact HT.out.p7
                · rw [HE1.out, HE2.out]; exact HT.out.ma
                · rw [HE4.out]; exact HT.out.og
              · have E := HR2.out
                rw [if_neg h0, if_neg h0] at E
                simp only [Prod.mk.injEq] at E
                obtain ⟨rfl, ⟨rfl, rfl, rfl⟩, rfl⟩ := E
                have h0b : (rc != 0) = true := by simpa using h0
                clear h0
                obtain ⟨z0, z1, z2, zf⟩ := HT.out.p7.cells3
                go_wp2
                clear z0 z1 z2 zf
                go_meet
                refine ⟨none, 0, 0, none, 0, 0, none, 0, 0, rfl, by omega, trivial, ((HT.out.p7.setCell 0 _).setCell 1 _).setCell 2 _, (Mown.none _ 0).mem, Om.nil _ _ _, ?_, ?_⟩
                · have h := (((HT.out.sl.setCell (p := ⟨w6.heap.size, 0, none⟩) (.inr (by simp)) (.slice none 0 0)).setCell (p := ⟨w6.heap.size, 1, none⟩) (.inr (by simp)) (.slice none 0 0)).setCell (p := ⟨w6.heap.size, 2, none⟩) (.inr (by simp)) (.bool false)).mono (Nat.zero_le _) (Nat.le_of_lt HT.out.p7.lt)
                  simpa using h
                · exact ((HT.out.be.setCell (by have := h25.out; simp; omega) _).setCell (by have := h25.out; simp; omega) _).setCell (by have := h25.out; simp; omega) _
            case rest =>
              obtain ⟨Gx, gn, gc, Ax, an, ac, Bx, bm, bd, rfl, hgn, rfl, hp7, hmx, hog, hsl, hbe⟩ := hcut
              rename World => W8
              have P7 := hid hp7; have MX := hid hmx; have OG := hid hog; have SL := hid hsl; have HB := hid (below_then HB2.out hbe)
              have HX := hid (HX2.out.step hbe); have HY := hid (HY2.out.step hbe); have P3 := hid (P32.out.step hbe)
              clear hp7 hmx hog hsl hbe HT HX2 HY2 P32 HB2 HR2
              obtain ⟨y00, y01, y02, yf0⟩ := P3.out.cells3
              go_wp2_with fail
              clear y00 y01 y02 yf0
              refine (lown_r A n c B m d f xs ys W8 HX.out HY.out hnc hmd).mono ?_
              rintro e w9 ⟨A9, n9, c9, B9, m9, d9, rfl, oa, ob, hb, hn9, hm9⟩
              replace P7 := hid (P7.out.step hb); replace MX := hid (MX.out.step hb); replace OG := hid (OG.out.step hb); replace SL := hid (SL.out.step hb); replace HX := hid (HX.out.step hb); replace HY := hid (HY.out.step hb); replace P3 := hid (P3.out.step hb); replace HB := hid (below_then HB.out hb)
              clear hb
              rw [HWS.out] at oa; rw [HLS.out] at ob
              have M9 := hid (Mem.ofOw oa ob (by omega) (by omega))
              clear oa ob
              clear HX HY P3
              go_wp2_with fail
              have hrun := mrun_any A9 n9 c9 B9 m9 d9 f ws ls L3 j c3 al w9 M9.out SL.out (by have := hj16.out; omega)
              rw [← HRM.out] at hrun
              refine (hrun).mono ?_
              rintro e w10 ⟨Ay, ny, cy, By, my, dy, Gy, gy', gcy, rfl, oy, ogy, hb⟩
              replace P7 := hid (P7.out.step hb); replace MX := hid (MX.out.step hb); replace OG := hid (OG.out.step hb); replace SL := hid (SL.out.step hb); replace HB := hid (below_then HB.out hb)
              clear hb
              clear hrun
              dsimp only at oy ogy ⊢
              have MY := hid oy.mem; have OY := hid ogy; have hgy := hid ogy.len; have hgl := hid OG.out.len
              clear oy ogy
              clear SL M9
              have bx := below_box w10 (.cells #[.slice Ay ny cy, .slice By my dy, .bool rf] 25)
              replace P7 := hid (P7.out.step bx); replace MX := hid (MX.out.step bx); replace OG := hid (OG.out.step bx); replace MY := hid (MY.out.step bx); replace OY := hid (OY.out.step bx); replace HB := hid (below_then HB.out bx)
              clear bx
              have P19 := hid (Blk.new w10 25 #[.slice Ay ny cy, .slice By my dy, .bool rf])
              have hrc : (rc == rc) = true := by simp
              go_wp2_with fail
              generalize w10.alloc (.cells #[.slice Ay ny cy, .slice By my dy, .bool rf] 25) = W11 at *
              refine (equal_got Gy Gx gy' gcy gn gc _ _ _ _ rgs rgs W11 OY.out.sm OG.out.sm (by have := hgy.out; have := hgl.out; omega) (by omega)).mono ?_
              rintro e W12 ⟨rfl, hb⟩
              replace P7 := hid (P7.out.step hb); replace MX := hid (MX.out.step hb); replace OG := hid (OG.out.step hb); replace MY := hid (MY.out.step hb); replace OY := hid (OY.out.step hb); replace P19 := hid (P19.out.step hb); replace HB := hid (below_then HB.out hb)
              clear hb
              rw [decide_eq_true rfl]
              obtain ⟨y00, y01, y02, yf0⟩ := P19.out.cells3
              obtain ⟨y10, y11, y12, yf1⟩ := P7.out.cells3
              go_wp2_with fail
              clear y00 y01 y02 yf0 y10 y11 y12 yf1
              refine (rmsame_any Ay ny cy By my dy rf rws rls Ax an ac Bx bm bd rf rws rls W12 MY.out MX.out).mono ?_
              rintro e W13 ⟨rfl, hb⟩
              replace P7 := hid (P7.out.step hb); replace MX := hid (MX.out.step hb); replace OG := hid (OG.out.step hb); replace MY := hid (MY.out.step hb); replace OY := hid (OY.out.step hb); replace P19 := hid (P19.out.step hb); replace HB := hid (below_then HB.out hb)
              clear hb
              rw [show sameM (rws, rls, rf) (rws, rls, rf) = true by simp [sameM]]
              go_wp2
              exact bodyPost_ret (v := .bool true) (by simp [results]) rfl ⟨rfl, HB.out⟩
        · have h0i : ¬ (j : Int) = 0 := by omega
          have hl0 := hid (show ¬ al.length = 0 by rw [hl3.out]; omega)
          clear h0
          go_upto_if 98 with fail
          go_cut [8] (fun s8 wx => s8 = .int .i64 code' ∧ wx = wr)
          case first =>
            have E := HC.out
            rw [if_neg (fun h => hl0.out h.1)] at E
            subst E
            go_wp2
            go_meet
            exact ⟨rfl, rfl⟩
          case rest =>
            obtain ⟨rfl, rfl⟩ := hcut
            rename World => wr
            clear HC h0i hl0
            obtain ⟨⟨rc, ⟨rws, rls, rf⟩, rgs⟩, hr⟩ : ∃ r, r = runMF (ws, ls, f) al := ⟨_, rfl⟩
            have HRM := hid hr
            have HR2 := hid (hr.trans HR.out)
            clear hr HR
            go_upto_if 100 with fail
            go_cut [9] (fun s9 wx => ∃ G ng cg A n c B m d, s9 = .slice G ng cg ∧ ng ≤ 16 ∧ rc = code' ∧ Blk wx w6.heap.size 25 (mcs A n c B m d rf) ∧ Mem wx A n c B m d rws rls ∧ Om 2 encG wx W7.heap.size 47 G ng cg rgs ∧ Sm 4 encA (0, 0, 0, 0) wx 0 wx.heap.size L3 j al ∧ Below w2.heap.size w2 wx)
            case first =>
              by_cases h0 : code' = 0
              · have E := HR2.out
                rw [if_pos h0, if_pos h0] at E
                simp only [Prod.mk.injEq] at E
                obtain ⟨e1, e2, e3⟩ := E
                have e2' := congrArg (fun x : MSt => x.1) e2; have e2b := congrArg (fun x : MSt => x.2.1) e2; have e2c := congrArg (fun x : MSt => x.2.2) e2
                dsimp only at e2' e2b e2c
                have h0b : (code' != 0) = false := by simpa using h0
                have HE := hid e1; have HE1 := hid e2'; have HE2 := hid e2b; have HE3 := hid e2c; have HE4 := hid e3
                clear e1 e2 e2' e2b e2c e3 h0
                go_wp2
                go_meet
                refine ⟨G, ng, cg, A', n', c', B', m', d', rfl, by omega, HE.out, ?_, ?_, ?_, HT.out.sl.mono (Nat.zero_le _) (Nat.le_of_lt HT.out.p7.lt), HT.out.be⟩
                · rw [HE3.out]; exact HT.out.p7
                · rw [HE1.out, HE2.out]; exact HT.out.ma
                · rw [HE4.out]; exact HT.out.og
              · have E := HR2.out
                rw [if_neg h0, if_neg h0] at E
                simp only [Prod.mk.injEq] at E
                obtain ⟨rfl, ⟨rfl, rfl, rfl⟩, rfl⟩ := E
                have h0b : (rc != 0) = true := by simpa using h0
                clear h0
                obtain ⟨z0, z1, z2, zf⟩ := HT.out.p7.cells3
                go_wp2
                clear z0 z1 z2 zf
                go_meet
                refine ⟨none, 0, 0, none, 0, 0, none, 0, 0, rfl, by omega, trivial, ((HT.out.p7.setCell 0 _).setCell 1 _).setCell 2 _, (Mown.none _ 0).mem, Om.nil _ _ _, ?_, ?_⟩
                · have h := (((HT.out.sl.setCell (p := ⟨w6.heap.size, 0, none⟩) (.inr (by simp)) (.slice none 0 0)).setCell (p := ⟨w6.heap.size, 1, none⟩) (.inr (by simp)) (.slice none 0 0)).setCell (p := ⟨w6.heap.size, 2, none⟩) (.inr (by simp)) (.bool false)).mono (Nat.zero_le _) (Nat.le_of_lt HT.out.p7.lt)
                  simpa using h
                · exact ((HT.out.be.setCell (by have := h25.out; simp; omega) _).setCell (by have := h25.out; simp; omega) _).setCell (by have := h25.out; simp; omega) _
            case rest =>
              obtain ⟨Gx, gn, gc, Ax, an, ac, Bx, bm, bd, rfl, hgn, rfl, hp7, hmx, hog, hsl, hbe⟩ := hcut
              rename World => W8
              have P7 := hid hp7; have MX := hid hmx; have OG := hid hog; have SL := hid hsl; have HB := hid (below_then HB2.out hbe)
              have HX := hid (HX2.out.step hbe); have HY := hid (HY2.out.step hbe); have P3 := hid (P32.out.step hbe)
              clear hp7 hmx hog hsl hbe HT HX2 HY2 P32 HB2 HR2
              obtain ⟨y00, y01, y02, yf0⟩ := P3.out.cells3
              go_wp2_with fail
              clear y00 y01 y02 yf0
              refine (lown_r A n c B m d f xs ys W8 HX.out HY.out hnc hmd).mono ?_
              rintro e w9 ⟨A9, n9, c9, B9, m9, d9, rfl, oa, ob, hb, hn9, hm9⟩
              replace P7 := hid (P7.out.step hb); replace MX := hid (MX.out.step hb); replace OG := hid (OG.out.step hb); replace SL := hid (SL.out.step hb); replace HX := hid (HX.out.step hb); replace HY := hid (HY.out.step hb); replace P3 := hid (P3.out.step hb); replace HB := hid (below_then HB.out hb)
              clear hb
              rw [HWS.out] at oa; rw [HLS.out] at ob
              have M9 := hid (Mem.ofOw oa ob (by omega) (by omega))
              clear oa ob
              clear HX HY P3
              go_wp2_with fail
              have hrun := mrun_any A9 n9 c9 B9 m9 d9 f ws ls L3 j c3 al w9 M9.out SL.out (by have := hj16.out; omega)
              rw [← HRM.out] at hrun
              refine (hrun).mono ?_
              rintro e w10 ⟨Ay, ny, cy, By, my, dy, Gy, gy', gcy, rfl, oy, ogy, hb⟩
              replace P7 := hid (P7.out.step hb); replace MX := hid (MX.out.step hb); replace OG := hid (OG.out.step hb); replace SL := hid (SL.out.step hb); replace HB := hid (below_then HB.out hb)
              clear hb
              clear hrun
              dsimp only at oy ogy ⊢
              have MY := hid oy.mem; have OY := hid ogy; have hgy := hid ogy.len; have hgl := hid OG.out.len
              clear oy ogy
              clear SL M9
              have bx := below_box w10 (.cells #[.slice Ay ny cy, .slice By my dy, .bool rf] 25)
              replace P7 := hid (P7.out.step bx); replace MX := hid (MX.out.step bx); replace OG := hid (OG.out.step bx); replace MY := hid (MY.out.step bx); replace OY := hid (OY.out.step bx); replace HB := hid (below_then HB.out bx)
              clear bx
              have P19 := hid (Blk.new w10 25 #[.slice Ay ny cy, .slice By my dy, .bool rf])
              have hrc : (rc == rc) = true := by simp
              go_wp2_with fail
              generalize w10.alloc (.cells #[.slice Ay ny cy, .slice By my dy, .bool rf] 25) = W11 at *
              refine (equal_got Gy Gx gy' gcy gn gc _ _ _ _ rgs rgs W11 OY.out.sm OG.out.sm (by have := hgy.out; have := hgl.out; omega) (by omega)).mono ?_
              rintro e W12 ⟨rfl, hb⟩
              replace P7 := hid (P7.out.step hb); replace MX := hid (MX.out.step hb); replace OG := hid (OG.out.step hb); replace MY := hid (MY.out.step hb); replace OY := hid (OY.out.step hb); replace P19 := hid (P19.out.step hb); replace HB := hid (below_then HB.out hb)
              clear hb
              rw [decide_eq_true rfl]
              obtain ⟨y00, y01, y02, yf0⟩ := P19.out.cells3
              obtain ⟨y10, y11, y12, yf1⟩ := P7.out.cells3
              go_wp2_with fail
              clear y00 y01 y02 yf0 y10 y11 y12 yf1
              refine (rmsame_any Ay ny cy By my dy rf rws rls Ax an ac Bx bm bd rf rws rls W12 MY.out MX.out).mono ?_
              rintro e W13 ⟨rfl, hb⟩
              replace P7 := hid (P7.out.step hb); replace MX := hid (MX.out.step hb); replace OG := hid (OG.out.step hb); replace MY := hid (MY.out.step hb); replace OY := hid (OY.out.step hb); replace P19 := hid (P19.out.step hb); replace HB := hid (below_then HB.out hb)
              clear hb
              rw [show sameM (rws, rls, rf) (rws, rls, rf) = true by simp [sameM]]
              go_wp2
              exact bodyPost_ret (v := .bool true) (by simp [results]) rfl ⟨rfl, HB.out⟩
end Go.Proofs.Ytenhojdhjfoomaa
