/- Walks and plain laws for this claim, part 10. No condition but sizes. -/
import Derived.Test.YtfipdoofgbjbjaaGreatM9
import Derived.Deep.DeepCutAuto
import Derived.Deep.CutBlock
import Derived.Laws.Bits64
import Derived.Laws.Bits64b
/- slices.partitionOrdered at words. No condition but sizes. -/
namespace Go.Proofs.YtfipdoofgbjbjaaGreat
open Go.RowKit
attribute [local go_sem] Oper.semAt_some
/-- m parts it: no more ahead of it, no less behind it -/
def Pa (a z m : Nat) (f : Nat → Int) : Prop := a ≤ m ∧ m < z ∧ (∀ k, a ≤ k → k < m → f k ≤ f m) ∧ ∀ k, m < k → k < z → f m ≤ f k
/-- in the midst of it: those ahead of i are less than the first, those behind j are not -/
def Pt (a z i j : Nat) (f : Nat → Int) : Prop := (∀ k, a + 1 ≤ k → k < i → f k < f a) ∧ ∀ k, j < k → k < z → f a ≤ f k
theorem Pt.fin {a z i j : Nat} {f : Nat → Int} (h : Pt a z i j f) (hi : i = j + 1) (ha : a ≤ j) (hz : j < z) : Pa a z j (swp f j a) := by
  refine ⟨ha, hz, fun k h1 h2 => ?_, fun k h1 h2 => ?_⟩
  · rw [swp_l]
    by_cases e : k = a
    · subst e; rw [swp_r]; exact Int.le_of_lt (h.1 j (by omega) (by omega))
    · rw [swp_o _ (by omega) e]; exact Int.le_of_lt (h.1 k (by omega) (by omega))
  · rw [swp_l, swp_o _ (by omega) (by omega)]
    have := h.2 k h1 h2; omega
theorem Pt.swap {a z i j : Nat} {f : Nat → Int} (h : Pt a z i j f) (hi : a < i) (hij : i < j) (hi2 : f a ≤ f i) (hj2 : f j < f a) : Pt a z (i + 1) (j - 1) (swp f i j) := by
  have e : swp f i j a = f a := swp_o _ (by omega) (by omega)
  refine ⟨fun k h1 h2 => ?_, fun k h1 h2 => ?_⟩
  · rw [e]
    by_cases e2 : k = i
    · subst e2; rw [swp_l]; exact hj2
    · rw [swp_o _ e2 (by omega)]; exact h.1 k h1 (by omega)
  · rw [e]
    by_cases e2 : k = j
    · subst e2; rw [swp_r]; exact hi2
    · rw [swp_o _ (by omega) e2]; exact h.2 k (by omega) h2
def PaP (w : World) (b n a z : Nat) (f : Nat → Int) (x : Ending) (w' : World) : Prop :=
  ∃ (m : Nat) (ap : Bool) (g : Nat → Int), x = .returned (.tuple #[.int .i64 m, .bool ap]) ∧ RwS w' b n g ∧ Swp a z f g ∧ Pa a z m g ∧ GrownP (fun i => i = b) w w'
set_option maxRecDepth 100000 in
set_option maxHeartbeats 8000000 in
theorem spart_any (b n c0 a z pv : Nat) (f : Nat → Int) (w : World) (h : RwS w b n f) (ha : a < z) (hz : z ≤ n) (hn : n ≤ 1000000) (hp1 : a ≤ pv) (hp2 : pv < z) :
    Calls Tryz.prog 111 #[.slice (some ⟨b, 0, none⟩) n c0, .int .i64 a, .int .i64 z, .int .i64 pv] w (PaP w b n a z f) := by
  have HR := hid h; have HG := hid (GrownP.refl (fun i => i = b) w)
  obtain ⟨z0, hz0⟩ : ∃ z0, z = z0 + 1 := ⟨z - 1, by omega⟩
  obtain ⟨a1, ha1⟩ : ∃ a1, a1 = a + 1 := ⟨_, rfl⟩
  have HH := hid (show a < z ∧ z ≤ n ∧ n ≤ 1000000 ∧ a ≤ pv ∧ pv < z ∧ z = z0 + 1 ∧ a1 = a + 1 from ⟨ha, hz, hn, hp1, hp2, hz0, ha1⟩)
  have hw1 : IntKind.i64.wrap ((z : Int) - 1) = (z0 : Int) := by rw [IntKind.wrap_i64]; omega
  have hw2 : IntKind.i64.wrap ((a : Int) + 1) = (a1 : Int) := by rw [IntKind.wrap_i64]; omega
  have hi1 : (a : Int) < (n : Int) := by omega
  have hi2 : (pv : Int) < (n : Int) := by omega
  clear h ha hz hn hp1 hp2 hz0 ha1
  go_enter Tryz.func111, Tryz.ntmps111
  go_upto_region 1 with fail
  have hf1 := HR.out.free (a) ((by have := HH.out; omega)); have hf2 := HR.out.free (pv) ((by have := HH.out; omega)); have hc1 := HR.out.cell (a) ((by have := HH.out; omega)); have hc2 := HR.out.cell (pv) ((by have := HH.out; omega)); have hc3 := HR.out.mid (i := a) (j := pv) ((by have := HH.out; omega)) ((by have := HH.out; omega))
  show Code.wp _ _ _ _ _
  go_region
  clear hf1 hf2 hc1 hc2 hc3
  have bx := (Below.refl ((w.setCell ⟨b, a, none⟩ (.int .u64 (f pv))).setCell ⟨b, pv, none⟩ (.int .u64 (f a))).heap.size ((w.setCell ⟨b, a, none⟩ (.int .u64 (f pv))).setCell ⟨b, pv, none⟩ (.int .u64 (f a)))).drew
  replace HR := hid ((HR.out.swap (i := a) (j := pv) ((by have := HH.out; omega)) ((by have := HH.out; omega))).step bx); replace HG := hid (((HG.out.sc (b := b) (o := a) rfl (.int .u64 (f (pv)))).sc (b := b) (o := pv) rfl (.int .u64 (f (a)))).bl bx)
  clear bx
  generalize ((w.setCell ⟨b, a, none⟩ (.int .u64 (f pv))).setCell ⟨b, pv, none⟩ (.int .u64 (f a))).drew = W1 at *
  obtain ⟨g, hg⟩ : ∃ g, g = swp f a pv := ⟨_, rfl⟩
  have HS := hid (show Swp a z f g by rw [hg]; exact Swp.refl.step (Nat.le_refl _) HH.out.1 HH.out.2.2.2.1 HH.out.2.2.2.2.1)
  rw [← hg] at HR
  clear hg hi2
  go_upto_block 0 with fail
  clear hw1 hw2
  have HIJ := hid (show a1 ≤ z0 + 1 ∧ z0 < n ∧ n ≤ 1000000 ∧ a < n ∧ a < a1 by have := HH.out; omega)
  go_upto_block 0 with fail
  go_cut [10] (fun s10 wx => ∃ p : Nat, s10 = .int .i64 p ∧ a1 ≤ p ∧ p ≤ z0 + 1 ∧ RwS wx b n g ∧ (∀ k, a1 ≤ k → k < p → g k < g a) ∧ GrownP (fun i => i = b) w wx ∧ (p ≤ z0 → g a ≤ g p))
  case first =>
    go_wp2_with fail
    go_loopw [10] (fun i wr => ∃ p : Nat, i = .int .i64 p ∧ a1 ≤ p ∧ p ≤ z0 + 1 ∧ RwS wr b n g ∧ (∀ k, a1 ≤ k → k < p → g k < g a) ∧ GrownP (fun i => i = b) w wr) (fun i _ => z0 + 1 - (intOf i).toNat)
    case atStart => exact ⟨a1, rfl, by have := HIJ.out; omega, by have := HIJ.out; omega, HR.out, fun k h1 h2 => by omega, HG.out⟩
    case round =>
      rename World => wr
      obtain ⟨p, rfl, hp1, hp2, hr, hpa, hg⟩ := hrel
      have HP := hid (And.intro hp1 hp2); replace HR := hid hr; have HPA := hid hpa; replace HG := hid hg
      clear hp1 hp2 hr hpa hg
      by_cases hgo : p ≤ z0
      rotate_left
      ·skip
       have hd : ¬ ((p : Int) ≤ (z0 : Int)) := by omega
       have HNG := hid hgo
       go_upto_region 3 with fail
       clear hgo
       have HBX := hid (Below.refl wr.heap.size wr)
       have bx := (Below.refl wr.heap.size wr).drew
       replace HR := hid (HR.out.step bx); replace HG := hid (HG.out.step bx); replace HBX := hid (below_then HBX.out bx)
       clear bx
       have hszd := hid (show wr.drew.heap.size = wr.heap.size from rfl)
       refine wp_region_noPanic ?_
       refine wp_region_held_drew (S := (fun W' : World => True)) (by kernel_rfl) trivial (fun hS => ?_)
       generalize wr.drew = Wd at *
       refine tk 0 hS ?_
       refine tk 1 hS ?_
       refine tk 2 hS ?_
       refine tk 3 hS ?_
       refine tku 4 hS ?_
       refine tku 5 hS ?_
       refine tku 6 hS ?_
       refine tku 7 hS ?_
       refine tku 8 hS ?_
       refine tku 9 hS ?_
       refine tku 10 hS ?_
       refine tku 11 hS ?_
       refine tku 12 hS ?_
       refine tk 13 hS ?_
       refine wpAnyH_done (by kernel_rfl) ?_ _
       refine NoPanic.normal ?_
       clear hS
       go_wp2_with fail
       go_meet
       exact ⟨p, rfl, HP.out.1, HP.out.2, HR.out, HPA.out, HG.out, fun h => absurd h HNG.out⟩
      have hd : (p : Int) ≤ (z0 : Int) := by omega
      have HGO := hid hgo
      have hwx : IntKind.i64.wrap ((p : Int) + 1) = ((p + 1 : Nat) : Int) := by have := HIJ.out; rw [IntKind.wrap_i64]; omega
      have HXN := hid (show p < n ∧ a < n by have := HIJ.out; have := HP.out; omega)
      have hi1 : (p : Int) < (n : Int) := by have := HXN.out; omega
      have hi2 : (a : Int) < (n : Int) := by have := HXN.out; omega
      go_upto_region 3 with fail
      clear hgo
      have HBX := hid (Below.refl wr.heap.size wr)
      have bx := (Below.refl wr.heap.size wr).drew
      replace HR := hid (HR.out.step bx); replace HG := hid (HG.out.step bx); replace HBX := hid (below_then HBX.out bx)
      clear bx
      have hszd := hid (show wr.drew.heap.size = wr.heap.size from rfl)
      refine wp_region_noPanic ?_
      refine wp_region_held_drew (S := (fun W' : World => W'.cell? ⟨b, p, none⟩ = some (.int .u64 (g p)) ∧ W'.cell? ⟨b, a, none⟩ = some (.int .u64 (g a)))) (by kernel_rfl) ⟨(HR.out.cell p HXN.out.1), (HR.out.cell a HXN.out.2)⟩ (fun hS => ?_)
      generalize wr.drew = Wd at *
      refine tk 0 hS ?_
      refine tk 1 hS ?_
      refine tk 2 hS ?_
      refine tk 3 hS ?_
      refine tk 4 hS ?_
      refine tk 5 hS ?_
      refine tk 6 hS ?_
      refine tk 7 hS ?_
      refine tk 8 hS ?_
      refine tk 9 hS ?_
      refine tk 10 hS ?_
      refine tk 11 hS ?_
      refine rdy [12] (csy (fun K hK => ?_) AllReadyH.nil)
      go_simp
      refine (less_b (g p) (g a) _).mono ?_
      rintro e w12 ⟨rfl, hb⟩
      have hsz0 := hid (show Wd.heap.size ≤ w12.heap.size from hb.size)
      replace HR := hid (HR.out.step hb); replace HG := hid (HG.out.step hb); replace HBX := hid (below_then HBX.out hb)
      clear hb
      go_wp2_with fail
      clear hS
      refine ky hK ⟨(HR.out.cell p HXN.out.1), (HR.out.cell a HXN.out.2)⟩ fun hS => ?_
      clear hK K
      refine tk 13 hS ?_
      refine wpAnyH_done (by kernel_rfl) ?_ _
      refine NoPanic.normal ?_
      clear hS
      by_cases hlt : g p < g a
      ·skip
       have hl : decide (g p < g a) = true := decide_eq_true hlt
       have HLT := hid hlt
       rw [hl]
       go_wp2_with fail
       refine ⟨⟨p + 1, rfl, by have := HP.out; omega, by have := HGO.out; omega, HR.out, fun k h1 h2 => ?_, HG.out⟩, ?_⟩
       ·by_cases e : k = p
        · subst e; have := HLT.out; omega
        · exact HPA.out k h1 (by omega)
       have h1 : intOf (.int .i64 ((p : Int) + 1)) = (p : Int) + 1 := rfl
       have h2 : intOf (.int .i64 (p : Int)) = (p : Int) := rfl
       have := HGO.out
       rw [h1, h2]; omega
      have hl : decide (g p < g a) = false := decide_eq_false hlt
      have HLT := hid hlt
      rw [hl]
      go_wp2_with fail
      go_meet
      exact ⟨p, rfl, HP.out.1, HP.out.2, HR.out, HPA.out, HG.out, fun _ => by have := HLT.out; omega⟩
  case rest =>
    obtain ⟨p, rfl, hp1, hp2, hr, hpa, hg, hst⟩ := hcut
    rename World => w3
    replace HR := hid hr; replace HG := hid hg
    have HPI := hid (And.intro hp1 (And.intro hp2 (And.intro hpa hst)))
    clear hp1 hp2 hr hpa hg hst
    replace HIJ := hid (show a1 ≤ p ∧ p ≤ z0 + 1 ∧ z0 < n ∧ n ≤ 1000000 ∧ a < n ∧ a < a1 by have := HPI.out.1; have := HPI.out.2.1; have := HIJ.out; omega)
    go_upto_block 2 with fail
    go_cut [11] (fun s11 wx => ∃ q : Nat, s11 = .int .i64 q ∧ p ≤ q + 1 ∧ q ≤ z0 ∧ RwS wx b n g ∧ (∀ k, q < k → k ≤ z0 → g a ≤ g k) ∧ GrownP (fun i => i = b) w wx ∧ (p ≤ q → g q < g a))
    case first =>
      go_wp2_with fail
      go_loopw [11] (fun i wr => ∃ q : Nat, i = .int .i64 q ∧ p ≤ q + 1 ∧ q ≤ z0 ∧ RwS wr b n g ∧ (∀ k, q < k → k ≤ z0 → g a ≤ g k) ∧ GrownP (fun i => i = b) w wr) (fun i _ => (intOf i).toNat)
      case atStart => exact ⟨z0, rfl, by have := HIJ.out; omega, by have := HIJ.out; omega, HR.out, fun k h1 h2 => by omega, HG.out⟩
      case round =>
        rename World => wr
        obtain ⟨q, rfl, hp1, hp2, hr, hpa, hg⟩ := hrel
        have HP := hid (And.intro hp1 hp2); replace HR := hid hr; have HPA := hid hpa; replace HG := hid hg
        clear hp1 hp2 hr hpa hg
        by_cases hgo : p ≤ q
        rotate_left
        ·skip
         have hd : ¬ ((p : Int) ≤ (q : Int)) := by omega
         have HNG := hid hgo
         go_upto_region 5 with fail
         clear hgo
         have HBX := hid (Below.refl wr.heap.size wr)
         have bx := (Below.refl wr.heap.size wr).drew
         replace HR := hid (HR.out.step bx); replace HG := hid (HG.out.step bx); replace HBX := hid (below_then HBX.out bx)
         clear bx
         have hszd := hid (show wr.drew.heap.size = wr.heap.size from rfl)
         refine wp_region_noPanic ?_
         refine wp_region_held_drew (S := (fun W' : World => True)) (by kernel_rfl) trivial (fun hS => ?_)
         generalize wr.drew = Wd at *
         refine tk 0 hS ?_
         refine tk 1 hS ?_
         refine tk 2 hS ?_
         refine tk 3 hS ?_
         refine tku 4 hS ?_
         refine tku 5 hS ?_
         refine tku 6 hS ?_
         refine tku 7 hS ?_
         refine tku 8 hS ?_
         refine tku 9 hS ?_
         refine tku 10 hS ?_
         refine tku 11 hS ?_
         refine tku 12 hS ?_
         refine tku 13 hS ?_
         refine tk 14 hS ?_
         refine wpAnyH_done (by kernel_rfl) ?_ _
         refine NoPanic.normal ?_
         clear hS
         go_wp2_with fail
         go_meet
         exact ⟨q, rfl, HP.out.1, HP.out.2, HR.out, HPA.out, HG.out, fun h => absurd h HNG.out⟩
        have hd : (p : Int) ≤ (q : Int) := by omega
        have HGO := hid hgo
        obtain ⟨x1, hx1⟩ : ∃ x1, q = x1 + 1 := ⟨q - 1, by have := HIJ.out; omega⟩
        have HX1 := hid hx1
        have hwx : IntKind.i64.wrap ((q : Int) - 1) = (x1 : Int) := by have := HIJ.out; have := HP.out; rw [IntKind.wrap_i64]; omega
        clear hx1
        have HXN := hid (show q < n ∧ a < n by have := HIJ.out; have := HP.out; omega)
        have hi1 : (q : Int) < (n : Int) := by have := HXN.out; omega
        have hi2 : (a : Int) < (n : Int) := by have := HXN.out; omega
        go_upto_region 5 with fail
        clear hgo
        have HBX := hid (Below.refl wr.heap.size wr)
        have bx := (Below.refl wr.heap.size wr).drew
        replace HR := hid (HR.out.step bx); replace HG := hid (HG.out.step bx); replace HBX := hid (below_then HBX.out bx)
        clear bx
        have hszd := hid (show wr.drew.heap.size = wr.heap.size from rfl)
        refine wp_region_noPanic ?_
        refine wp_region_held_drew (S := (fun W' : World => W'.cell? ⟨b, q, none⟩ = some (.int .u64 (g q)) ∧ W'.cell? ⟨b, a, none⟩ = some (.int .u64 (g a)))) (by kernel_rfl) ⟨(HR.out.cell q HXN.out.1), (HR.out.cell a HXN.out.2)⟩ (fun hS => ?_)
        generalize wr.drew = Wd at *
        refine tk 0 hS ?_
        refine tk 1 hS ?_
        refine tk 2 hS ?_
        refine tk 3 hS ?_
        refine tk 4 hS ?_
        refine tk 5 hS ?_
        refine tk 6 hS ?_
        refine tk 7 hS ?_
        refine tk 8 hS ?_
        refine tk 9 hS ?_
        refine tk 10 hS ?_
        refine tk 11 hS ?_
        refine rdy [12] (csy (fun K hK => ?_) AllReadyH.nil)
        go_simp
        refine (less_b (g q) (g a) _).mono ?_
        rintro e w12 ⟨rfl, hb⟩
        have hsz0 := hid (show Wd.heap.size ≤ w12.heap.size from hb.size)
        replace HR := hid (HR.out.step hb); replace HG := hid (HG.out.step hb); replace HBX := hid (below_then HBX.out hb)
        clear hb
        go_wp2_with fail
        clear hS
        refine ky hK ⟨(HR.out.cell q HXN.out.1), (HR.out.cell a HXN.out.2)⟩ fun hS => ?_
        clear hK K
        refine tk 13 hS ?_
        refine tk 14 hS ?_
        refine wpAnyH_done (by kernel_rfl) ?_ _
        refine NoPanic.normal ?_
        clear hS
        by_cases hlt : g q < g a
        ·skip
         have hl : decide (g q < g a) = true := decide_eq_true hlt
         have HLT := hid hlt
         rw [hl]
         go_wp2_with fail
         go_meet
         exact ⟨q, rfl, HP.out.1, HP.out.2, HR.out, HPA.out, HG.out, fun _ => by have := HLT.out; omega⟩
        have hl : decide (g q < g a) = false := decide_eq_false hlt
        have HLT := hid hlt
        rw [hl]
        go_wp2_with fail
        refine ⟨⟨x1, rfl, by have := HGO.out; have := HX1.out; omega, by have := HP.out; have := HX1.out; omega, HR.out, fun k h1 h2 => ?_, HG.out⟩, ?_⟩
        ·by_cases e : k = q
         · subst e; have := HLT.out; omega
         · exact HPA.out k (by have := HX1.out; omega) h2
        have h1 : intOf (.int .i64 (x1 : Int)) = (x1 : Int) := rfl
        have h2 : intOf (.int .i64 (q : Int)) = (q : Int) := rfl
        have := HX1.out
        rw [h1, h2]; omega
    case rest =>
      obtain ⟨q, rfl, hp1, hp2, hr, hpa, hg, hst⟩ := hcut
      rename World => w5
      replace HR := hid hr; replace HG := hid hg
      have HPJ := hid (And.intro hp1 (And.intro hp2 (And.intro hpa hst)))
      clear hp1 hp2 hr hpa hg hst
      have HPT := hid (show Pt a z p q g from ⟨fun k h1 h2 => HPI.out.2.2.1 k (by have := HH.out; omega) h2, fun k h1 h2 => HPJ.out.2.2.1 k h1 (by have := HH.out; omega)⟩)
      have HPB := hid (show a1 ≤ p ∧ q ≤ z0 from ⟨HPI.out.1, HPJ.out.2.1⟩)
      by_cases hpq : q < p
      ·skip
       have hd : (q : Int) < (p : Int) := by omega
       have HPQ := hid (show p = q + 1 ∧ a ≤ q ∧ q < z by have := HPJ.out.1; have := HPB.out; have := HH.out; omega)
       have hi2 : (q : Int) < (n : Int) := by have := HPQ.out; have := HH.out; omega
       go_upto_region 8 with fail
       clear hd hpq
       have hf1 := HR.out.free (q) ((by have := HPQ.out; have := HH.out; omega)); have hf2 := HR.out.free (a) ((by have := HH.out; omega)); have hc1 := HR.out.cell (q) ((by have := HPQ.out; have := HH.out; omega)); have hc2 := HR.out.cell (a) ((by have := HH.out; omega)); have hc3 := HR.out.mid (i := q) (j := a) ((by have := HPQ.out; have := HH.out; omega)) ((by have := HH.out; omega))
       show Code.wp _ _ _ _ _
       go_region
       clear hf1 hf2 hc1 hc2 hc3
       have bx := (Below.refl ((w5.setCell ⟨b, q, none⟩ (.int .u64 (g a))).setCell ⟨b, a, none⟩ (.int .u64 (g q))).heap.size ((w5.setCell ⟨b, q, none⟩ (.int .u64 (g a))).setCell ⟨b, a, none⟩ (.int .u64 (g q)))).drew
       replace HR := hid ((HR.out.swap (i := q) (j := a) ((by have := HPQ.out; have := HH.out; omega)) ((by have := HH.out; omega))).step bx); replace HG := hid (((HG.out.sc (b := b) (o := q) rfl (.int .u64 (g (a)))).sc (b := b) (o := a) rfl (.int .u64 (g (q)))).bl bx)
       clear bx
       generalize ((w5.setCell ⟨b, q, none⟩ (.int .u64 (g a))).setCell ⟨b, a, none⟩ (.int .u64 (g q))).drew = W8 at *
       go_wp2_with fail
       refine bodyPost_ret (v := .tuple #[.int .i64 q, .bool true]) (by simp [results, Tryz.results111, go_sem]) rfl ⟨q, true, swp g q a, rfl, HR.out, HS.out.step HPQ.out.2.1 HPQ.out.2.2 (Nat.le_refl _) HH.out.1, HPT.out.fin HPQ.out.1 HPQ.out.2.1 HPQ.out.2.2, HG.out⟩
      have hd : ¬ ((q : Int) < (p : Int)) := by omega
      have HPQ := hid (show p < q by
        rcases Nat.lt_or_ge p q with h | h
        · exact h
        · obtain rfl : p = q := by omega
          have h1 := HPJ.out.2.2.2 (Nat.le_refl _); have h2 := HPI.out.2.2.2 (by have := HPJ.out.2.1; omega); omega)
      have HPN := hid (show p < n ∧ q < n ∧ a1 ≤ p ∧ q ≤ z0 by have := HPB.out; have := HPQ.out; have := HH.out; omega)
      have hi2 : (q : Int) < (n : Int) := by have := HPN.out; omega
      have hi3 : (p : Int) < (n : Int) := by have := HPN.out; omega
      obtain ⟨q0, hq0⟩ : ∃ q0, q = q0 + 1 := ⟨q - 1, by have := HPQ.out; omega⟩
      have HQ0 := hid hq0
      have hw3 : IntKind.i64.wrap ((q : Int) - 1) = (q0 : Int) := by have := HPN.out; have := HH.out; rw [IntKind.wrap_i64]; omega
      have hw4 : IntKind.i64.wrap ((p : Int) + 1) = ((p + 1 : Nat) : Int) := by have := HPN.out; have := HH.out; rw [IntKind.wrap_i64]; omega
      have HPT2 := hid (HPT.out.swap (by have := HPN.out; have := HH.out; omega) HPQ.out (HPI.out.2.2.2 (by have := HPJ.out.2.1; have := HPQ.out; omega)) (HPJ.out.2.2.2 (by have := HPQ.out; omega)))
      go_upto_region 10 with fail
      clear hd hpq hq0
      have hf1 := HR.out.free (p) (HPN.out.1); have hf2 := HR.out.free (q) (HPN.out.2.1); have hc1 := HR.out.cell (p) (HPN.out.1); have hc2 := HR.out.cell (q) (HPN.out.2.1); have hc3 := HR.out.mid (i := p) (j := q) (HPN.out.1) (HPN.out.2.1)
      show Code.wp _ _ _ _ _
      go_region
      clear hf1 hf2 hc1 hc2 hc3
      have bx := (Below.refl ((w5.setCell ⟨b, p, none⟩ (.int .u64 (g q))).setCell ⟨b, q, none⟩ (.int .u64 (g p))).heap.size ((w5.setCell ⟨b, p, none⟩ (.int .u64 (g q))).setCell ⟨b, q, none⟩ (.int .u64 (g p)))).drew
      replace HR := hid ((HR.out.swap (i := p) (j := q) (HPN.out.1) (HPN.out.2.1)).step bx); replace HG := hid (((HG.out.sc (b := b) (o := p) rfl (.int .u64 (g (q)))).sc (b := b) (o := q) rfl (.int .u64 (g (p)))).bl bx)
      clear bx
      generalize ((w5.setCell ⟨b, p, none⟩ (.int .u64 (g q))).setCell ⟨b, q, none⟩ (.int .u64 (g p))).drew = W9 at *
      have HS2 := hid (HS.out.step (i := p) (j := q) (by have := HPN.out; have := HH.out; omega) (by have := HPN.out; have := HH.out; have := HPQ.out; omega) (by have := HPN.out; have := HPQ.out; have := HH.out; omega) (by have := HPN.out; have := HH.out; omega))
      have HIJ2 := hid (show a1 ≤ p + 1 ∧ p + 1 ≤ q0 + 1 ∧ q0 ≤ z0 by have := HPN.out; have := HPQ.out; have := HQ0.out; omega)
      have HPT3 := hid (show Pt a z (p + 1) q0 (swp g p q) from (by have h := HPT2.out; rw [show q - 1 = q0 by have := HQ0.out; omega] at h; exact h))
      go_wp2_with fail
      clear hi2 hi3 hw3 hw4
      go_loopw [10, 11] (fun i j wr => ∃ (p q : Nat) (g : Nat → Int), i = .int .i64 p ∧ j = .int .i64 q ∧ a1 ≤ p ∧ p ≤ q + 1 ∧ q ≤ z0 ∧ RwS wr b n g ∧ Swp a z f g ∧ Pt a z p q g ∧ GrownP (fun i => i = b) w wr) (fun i j _ => (intOf j + 1 - intOf i).toNat)
      case atStart => exact ⟨p + 1, q0, swp g p q, rfl, rfl, HIJ2.out.1, HIJ2.out.2.1, HIJ2.out.2.2, HR.out, HS2.out, HPT3.out, HG.out⟩
      case round =>
        clear HPI HPJ HPT HPQ HPN HQ0 HPT2 HPT3 HIJ HIJ2 HS2 HPB
        obtain ⟨pi, qi, g', rfl, rfl, hp1, hp2, hp3, hr, hs, hpt, hg⟩ := hrel
        rename World => wr
        have HR := hid hr; have HS := hid hs; have HG := hid hg; have HPT0 := hid hpt
        have HB0 := hid (show a1 ≤ pi ∧ pi ≤ qi + 1 ∧ qi ≤ z0 from ⟨hp1, hp2, hp3⟩)
        have HIJ := hid (show pi ≤ qi + 1 ∧ qi < n ∧ n ≤ 1000000 ∧ a < n ∧ a < pi by have := HH.out; omega)
        clear hp1 hp2 hp3 hr hs hg hpt
        obtain ⟨g, hgg⟩ : ∃ g, g = g' := ⟨_, rfl⟩
        subst hgg
        go_upto_block 6 with fail
        go_cut [10] (fun s10 wx => ∃ p : Nat, s10 = .int .i64 p ∧ pi ≤ p ∧ p ≤ qi + 1 ∧ RwS wx b n g ∧ (∀ k, pi ≤ k → k < p → g k < g a) ∧ GrownP (fun i => i = b) w wx ∧ (p ≤ qi → g a ≤ g p))
        case first =>
          go_wp2_with fail
          go_loopw [10] (fun i wr => ∃ p : Nat, i = .int .i64 p ∧ pi ≤ p ∧ p ≤ qi + 1 ∧ RwS wr b n g ∧ (∀ k, pi ≤ k → k < p → g k < g a) ∧ GrownP (fun i => i = b) w wr) (fun i _ => qi + 1 - (intOf i).toNat)
          case atStart => exact ⟨pi, rfl, by have := HIJ.out; omega, by have := HIJ.out; omega, HR.out, fun k h1 h2 => by omega, HG.out⟩
          case round =>
            rename World => wr
            obtain ⟨p, rfl, hp1, hp2, hr, hpa, hg⟩ := hrel
            have HP := hid (And.intro hp1 hp2); replace HR := hid hr; have HPA := hid hpa; replace HG := hid hg
            clear hp1 hp2 hr hpa hg
            by_cases hgo : p ≤ qi
            rotate_left
            ·skip
             have hd : ¬ ((p : Int) ≤ (qi : Int)) := by omega
             have HNG := hid hgo
             go_upto_region 13 with fail
             clear hgo
             have HBX := hid (Below.refl wr.heap.size wr)
             have bx := (Below.refl wr.heap.size wr).drew
             replace HR := hid (HR.out.step bx); replace HG := hid (HG.out.step bx); replace HBX := hid (below_then HBX.out bx)
             clear bx
             have hszd := hid (show wr.drew.heap.size = wr.heap.size from rfl)
             refine wp_region_noPanic ?_
             refine wp_region_held_drew (S := (fun W' : World => True)) (by kernel_rfl) trivial (fun hS => ?_)
             generalize wr.drew = Wd at *
             refine tk 0 hS ?_
             refine tk 1 hS ?_
             refine tk 2 hS ?_
             refine tk 3 hS ?_
             refine tku 4 hS ?_
             refine tku 5 hS ?_
             refine tku 6 hS ?_
             refine tku 7 hS ?_
             refine tku 8 hS ?_
             refine tku 9 hS ?_
             refine tku 10 hS ?_
             refine tku 11 hS ?_
             refine tku 12 hS ?_
             refine tk 13 hS ?_
             refine wpAnyH_done (by kernel_rfl) ?_ _
             refine NoPanic.normal ?_
             clear hS
             go_wp2_with fail
             go_meet
             exact ⟨p, rfl, HP.out.1, HP.out.2, HR.out, HPA.out, HG.out, fun h => absurd h HNG.out⟩
            have hd : (p : Int) ≤ (qi : Int) := by omega
            have HGO := hid hgo
            have hwx : IntKind.i64.wrap ((p : Int) + 1) = ((p + 1 : Nat) : Int) := by have := HIJ.out; rw [IntKind.wrap_i64]; omega
            have HXN := hid (show p < n ∧ a < n by have := HIJ.out; have := HP.out; omega)
            have hi1 : (p : Int) < (n : Int) := by have := HXN.out; omega
            have hi2 : (a : Int) < (n : Int) := by have := HXN.out; omega
            go_upto_region 13 with fail
            clear hgo
            have HBX := hid (Below.refl wr.heap.size wr)
            have bx := (Below.refl wr.heap.size wr).drew
            replace HR := hid (HR.out.step bx); replace HG := hid (HG.out.step bx); replace HBX := hid (below_then HBX.out bx)
            clear bx
            have hszd := hid (show wr.drew.heap.size = wr.heap.size from rfl)
            refine wp_region_noPanic ?_
            refine wp_region_held_drew (S := (fun W' : World => W'.cell? ⟨b, p, none⟩ = some (.int .u64 (g p)) ∧ W'.cell? ⟨b, a, none⟩ = some (.int .u64 (g a)))) (by kernel_rfl) ⟨(HR.out.cell p HXN.out.1), (HR.out.cell a HXN.out.2)⟩ (fun hS => ?_)
            generalize wr.drew = Wd at *
            refine tk 0 hS ?_
            refine tk 1 hS ?_
            refine tk 2 hS ?_
            refine tk 3 hS ?_
            refine tk 4 hS ?_
            refine tk 5 hS ?_
            refine tk 6 hS ?_
            refine tk 7 hS ?_
            refine tk 8 hS ?_
            refine tk 9 hS ?_
            refine tk 10 hS ?_
            refine tk 11 hS ?_
            refine rdy [12] (csy (fun K hK => ?_) AllReadyH.nil)
            go_simp
            refine (less_b (g p) (g a) _).mono ?_
            rintro e w12 ⟨rfl, hb⟩
            have hsz0 := hid (show Wd.heap.size ≤ w12.heap.size from hb.size)
            replace HR := hid (HR.out.step hb); replace HG := hid (HG.out.step hb); replace HBX := hid (below_then HBX.out hb)
            clear hb
            go_wp2_with fail
            clear hS
            refine ky hK ⟨(HR.out.cell p HXN.out.1), (HR.out.cell a HXN.out.2)⟩ fun hS => ?_
            clear hK K
            refine tk 13 hS ?_
            refine wpAnyH_done (by kernel_rfl) ?_ _
            refine NoPanic.normal ?_
            clear hS
            by_cases hlt : g p < g a
            ·skip
             have hl : decide (g p < g a) = true := decide_eq_true hlt
             have HLT := hid hlt
             rw [hl]
             go_wp2_with fail
             refine ⟨⟨p + 1, rfl, by have := HP.out; omega, by have := HGO.out; omega, HR.out, fun k h1 h2 => ?_, HG.out⟩, ?_⟩
             ·by_cases e : k = p
              · subst e; have := HLT.out; omega
              · exact HPA.out k h1 (by omega)
             have h1 : intOf (.int .i64 ((p : Int) + 1)) = (p : Int) + 1 := rfl
             have h2 : intOf (.int .i64 (p : Int)) = (p : Int) := rfl
             have := HGO.out
             rw [h1, h2]; omega
            have hl : decide (g p < g a) = false := decide_eq_false hlt
            have HLT := hid hlt
            rw [hl]
            go_wp2_with fail
            go_meet
            exact ⟨p, rfl, HP.out.1, HP.out.2, HR.out, HPA.out, HG.out, fun _ => by have := HLT.out; omega⟩
        case rest =>
          obtain ⟨p, rfl, hp1, hp2, hr, hpa, hg, hst⟩ := hcut
          rename World => w3
          replace HR := hid hr; replace HG := hid hg
          have HPI := hid (And.intro hp1 (And.intro hp2 (And.intro hpa hst)))
          clear hp1 hp2 hr hpa hg hst
          replace HIJ := hid (show pi ≤ p ∧ p ≤ qi + 1 ∧ qi < n ∧ n ≤ 1000000 ∧ a < n ∧ a < pi by have := HPI.out.1; have := HPI.out.2.1; have := HIJ.out; omega)
          go_upto_block 8 with fail
          go_cut [11] (fun s11 wx => ∃ q : Nat, s11 = .int .i64 q ∧ p ≤ q + 1 ∧ q ≤ qi ∧ RwS wx b n g ∧ (∀ k, q < k → k ≤ qi → g a ≤ g k) ∧ GrownP (fun i => i = b) w wx ∧ (p ≤ q → g q < g a))
          case first =>
            go_wp2_with fail
            go_loopw [11] (fun i wr => ∃ q : Nat, i = .int .i64 q ∧ p ≤ q + 1 ∧ q ≤ qi ∧ RwS wr b n g ∧ (∀ k, q < k → k ≤ qi → g a ≤ g k) ∧ GrownP (fun i => i = b) w wr) (fun i _ => (intOf i).toNat)
            case atStart => exact ⟨qi, rfl, by have := HIJ.out; omega, by have := HIJ.out; omega, HR.out, fun k h1 h2 => by omega, HG.out⟩
            case round =>
              rename World => wr
              obtain ⟨q, rfl, hp1, hp2, hr, hpa, hg⟩ := hrel
              have HP := hid (And.intro hp1 hp2); replace HR := hid hr; have HPA := hid hpa; replace HG := hid hg
              clear hp1 hp2 hr hpa hg
              by_cases hgo : p ≤ q
              rotate_left
              ·skip
               have hd : ¬ ((p : Int) ≤ (q : Int)) := by omega
               have HNG := hid hgo
               go_upto_region 15 with fail
               clear hgo
               have HBX := hid (Below.refl wr.heap.size wr)
               have bx := (Below.refl wr.heap.size wr).drew
               replace HR := hid (HR.out.step bx); replace HG := hid (HG.out.step bx); replace HBX := hid (below_then HBX.out bx)
               clear bx
               have hszd := hid (show wr.drew.heap.size = wr.heap.size from rfl)
               refine wp_region_noPanic ?_
               refine wp_region_held_drew (S := (fun W' : World => True)) (by kernel_rfl) trivial (fun hS => ?_)
               generalize wr.drew = Wd at *
               refine tk 0 hS ?_
               refine tk 1 hS ?_
               refine tk 2 hS ?_
               refine tk 3 hS ?_
               refine tku 4 hS ?_
               refine tku 5 hS ?_
               refine tku 6 hS ?_
               refine tku 7 hS ?_
               refine tku 8 hS ?_
               refine tku 9 hS ?_
               refine tku 10 hS ?_
               refine tku 11 hS ?_
               refine tku 12 hS ?_
               refine tku 13 hS ?_
               refine tk 14 hS ?_
               refine wpAnyH_done (by kernel_rfl) ?_ _
               refine NoPanic.normal ?_
               clear hS
               go_wp2_with fail
               go_meet
               exact ⟨q, rfl, HP.out.1, HP.out.2, HR.out, HPA.out, HG.out, fun h => absurd h HNG.out⟩
              have hd : (p : Int) ≤ (q : Int) := by omega
              have HGO := hid hgo
              obtain ⟨x1, hx1⟩ : ∃ x1, q = x1 + 1 := ⟨q - 1, by have := HIJ.out; omega⟩
              have HX1 := hid hx1
              have hwx : IntKind.i64.wrap ((q : Int) - 1) = (x1 : Int) := by have := HIJ.out; have := HP.out; rw [IntKind.wrap_i64]; omega
              clear hx1
              have HXN := hid (show q < n ∧ a < n by have := HIJ.out; have := HP.out; omega)
              have hi1 : (q : Int) < (n : Int) := by have := HXN.out; omega
              have hi2 : (a : Int) < (n : Int) := by have := HXN.out; omega
              go_upto_region 15 with fail
              clear hgo
              have HBX := hid (Below.refl wr.heap.size wr)
              have bx := (Below.refl wr.heap.size wr).drew
              replace HR := hid (HR.out.step bx); replace HG := hid (HG.out.step bx); replace HBX := hid (below_then HBX.out bx)
              clear bx
              have hszd := hid (show wr.drew.heap.size = wr.heap.size from rfl)
              refine wp_region_noPanic ?_
              refine wp_region_held_drew (S := (fun W' : World => W'.cell? ⟨b, q, none⟩ = some (.int .u64 (g q)) ∧ W'.cell? ⟨b, a, none⟩ = some (.int .u64 (g a)))) (by kernel_rfl) ⟨(HR.out.cell q HXN.out.1), (HR.out.cell a HXN.out.2)⟩ (fun hS => ?_)
              generalize wr.drew = Wd at *
              refine tk 0 hS ?_
              refine tk 1 hS ?_
              refine tk 2 hS ?_
              refine tk 3 hS ?_
              refine tk 4 hS ?_
              refine tk 5 hS ?_
              refine tk 6 hS ?_
              refine tk 7 hS ?_
              refine tk 8 hS ?_
              refine tk 9 hS ?_
              refine tk 10 hS ?_
              refine tk 11 hS ?_
              refine rdy [12] (csy (fun K hK => ?_) AllReadyH.nil)
              go_simp
              refine (less_b (g q) (g a) _).mono ?_
              rintro e w12 ⟨rfl, hb⟩
              have hsz0 := hid (show Wd.heap.size ≤ w12.heap.size from hb.size)
              replace HR := hid (HR.out.step hb); replace HG := hid (HG.out.step hb); replace HBX := hid (below_then HBX.out hb)
              clear hb
              go_wp2_with fail
              clear hS
              refine ky hK ⟨(HR.out.cell q HXN.out.1), (HR.out.cell a HXN.out.2)⟩ fun hS => ?_
              clear hK K
              refine tk 13 hS ?_
              refine tk 14 hS ?_
              refine wpAnyH_done (by kernel_rfl) ?_ _
              refine NoPanic.normal ?_
              clear hS
              by_cases hlt : g q < g a
              ·skip
               have hl : decide (g q < g a) = true := decide_eq_true hlt
               have HLT := hid hlt
               rw [hl]
               go_wp2_with fail
               go_meet
               exact ⟨q, rfl, HP.out.1, HP.out.2, HR.out, HPA.out, HG.out, fun _ => by have := HLT.out; omega⟩
              have hl : decide (g q < g a) = false := decide_eq_false hlt
              have HLT := hid hlt
              rw [hl]
              go_wp2_with fail
              refine ⟨⟨x1, rfl, by have := HGO.out; have := HX1.out; omega, by have := HP.out; have := HX1.out; omega, HR.out, fun k h1 h2 => ?_, HG.out⟩, ?_⟩
              ·by_cases e : k = q
               · subst e; have := HLT.out; omega
               · exact HPA.out k (by have := HX1.out; omega) h2
              have h1 : intOf (.int .i64 (x1 : Int)) = (x1 : Int) := rfl
              have h2 : intOf (.int .i64 (q : Int)) = (q : Int) := rfl
              have := HX1.out
              rw [h1, h2]; omega
          case rest =>
            obtain ⟨q, rfl, hp1, hp2, hr, hpa, hg, hst⟩ := hcut
            rename World => w5
            replace HR := hid hr; replace HG := hid hg
            have HPJ := hid (And.intro hp1 (And.intro hp2 (And.intro hpa hst)))
            clear hp1 hp2 hr hpa hg hst
            have HPT := hid (show Pt a z p q g from ⟨fun k h1 h2 => by
              rcases Nat.lt_or_ge k pi with h | h
              · exact HPT0.out.1 k h1 h
              · exact HPI.out.2.2.1 k h h2, fun k h1 h2 => by
              rcases Nat.lt_or_ge qi k with h | h
              · exact HPT0.out.2 k h h2
              · exact HPJ.out.2.2.1 k h1 h⟩)
            have HPB := hid (show a1 ≤ p ∧ q ≤ z0 by have := HPI.out.1; have := HPJ.out.2.1; have := HB0.out; omega)
            by_cases hpq : q < p
            ·skip
             have hd : (q : Int) < (p : Int) := by omega
             have HPQ := hid (show p = q + 1 ∧ a ≤ q ∧ q < z by have := HPJ.out.1; have := HPB.out; have := HH.out; omega)
             have hi2 : (q : Int) < (n : Int) := by have := HPQ.out; have := HH.out; omega
             go_upto_region 21 with fail
             clear hd hpq
             have hf1 := HR.out.free (q) ((by have := HPQ.out; have := HH.out; omega)); have hf2 := HR.out.free (a) ((by have := HH.out; omega)); have hc1 := HR.out.cell (q) ((by have := HPQ.out; have := HH.out; omega)); have hc2 := HR.out.cell (a) ((by have := HH.out; omega)); have hc3 := HR.out.mid (i := q) (j := a) ((by have := HPQ.out; have := HH.out; omega)) ((by have := HH.out; omega))
             show Code.wp _ _ _ _ _
             go_region
             clear hf1 hf2 hc1 hc2 hc3
             have bx := (Below.refl ((w5.setCell ⟨b, q, none⟩ (.int .u64 (g a))).setCell ⟨b, a, none⟩ (.int .u64 (g q))).heap.size ((w5.setCell ⟨b, q, none⟩ (.int .u64 (g a))).setCell ⟨b, a, none⟩ (.int .u64 (g q)))).drew
             replace HR := hid ((HR.out.swap (i := q) (j := a) ((by have := HPQ.out; have := HH.out; omega)) ((by have := HH.out; omega))).step bx); replace HG := hid (((HG.out.sc (b := b) (o := q) rfl (.int .u64 (g (a)))).sc (b := b) (o := a) rfl (.int .u64 (g (q)))).bl bx)
             clear bx
             generalize ((w5.setCell ⟨b, q, none⟩ (.int .u64 (g a))).setCell ⟨b, a, none⟩ (.int .u64 (g q))).drew = W8 at *
             go_wp2_with fail
             refine bodyPost_ret (v := .tuple #[.int .i64 q, .bool false]) (by simp [results, Tryz.results111, go_sem]) rfl ⟨q, false, swp g q a, rfl, HR.out, HS.out.step HPQ.out.2.1 HPQ.out.2.2 (Nat.le_refl _) HH.out.1, HPT.out.fin HPQ.out.1 HPQ.out.2.1 HPQ.out.2.2, HG.out⟩
            have hd : ¬ ((q : Int) < (p : Int)) := by omega
            have HPQ := hid (show p < q by
              rcases Nat.lt_or_ge p q with h | h
              · exact h
              · obtain rfl : p = q := by omega
                have h1 := HPJ.out.2.2.2 (Nat.le_refl _); have h2 := HPI.out.2.2.2 (by have := HPJ.out.2.1; omega); omega)
            have HPN := hid (show p < n ∧ q < n ∧ a1 ≤ p ∧ q ≤ z0 by have := HPB.out; have := HPQ.out; have := HH.out; omega)
            have hi2 : (q : Int) < (n : Int) := by have := HPN.out; omega
            have hi3 : (p : Int) < (n : Int) := by have := HPN.out; omega
            obtain ⟨q0, hq0⟩ : ∃ q0, q = q0 + 1 := ⟨q - 1, by have := HPQ.out; omega⟩
            have HQ0 := hid hq0
            have hw3 : IntKind.i64.wrap ((q : Int) - 1) = (q0 : Int) := by have := HPN.out; have := HH.out; rw [IntKind.wrap_i64]; omega
            have hw4 : IntKind.i64.wrap ((p : Int) + 1) = ((p + 1 : Nat) : Int) := by have := HPN.out; have := HH.out; rw [IntKind.wrap_i64]; omega
            have HPT2 := hid (HPT.out.swap (by have := HPN.out; have := HH.out; omega) HPQ.out (HPI.out.2.2.2 (by have := HPJ.out.2.1; have := HPQ.out; omega)) (HPJ.out.2.2.2 (by have := HPQ.out; omega)))
            go_upto_region 18 with fail
            clear hd hpq hq0
            have hf1 := HR.out.free (p) (HPN.out.1); have hf2 := HR.out.free (q) (HPN.out.2.1); have hc1 := HR.out.cell (p) (HPN.out.1); have hc2 := HR.out.cell (q) (HPN.out.2.1); have hc3 := HR.out.mid (i := p) (j := q) (HPN.out.1) (HPN.out.2.1)
            show Code.wp _ _ _ _ _
            go_region
            clear hf1 hf2 hc1 hc2 hc3
            have bx := (Below.refl ((w5.setCell ⟨b, p, none⟩ (.int .u64 (g q))).setCell ⟨b, q, none⟩ (.int .u64 (g p))).heap.size ((w5.setCell ⟨b, p, none⟩ (.int .u64 (g q))).setCell ⟨b, q, none⟩ (.int .u64 (g p)))).drew
            replace HR := hid ((HR.out.swap (i := p) (j := q) (HPN.out.1) (HPN.out.2.1)).step bx); replace HG := hid (((HG.out.sc (b := b) (o := p) rfl (.int .u64 (g (q)))).sc (b := b) (o := q) rfl (.int .u64 (g (p)))).bl bx)
            clear bx
            generalize ((w5.setCell ⟨b, p, none⟩ (.int .u64 (g q))).setCell ⟨b, q, none⟩ (.int .u64 (g p))).drew = W9 at *
            have HS2 := hid (HS.out.step (i := p) (j := q) (by have := HPN.out; have := HH.out; omega) (by have := HPN.out; have := HH.out; have := HPQ.out; omega) (by have := HPN.out; have := HPQ.out; have := HH.out; omega) (by have := HPN.out; have := HH.out; omega))
            have HPT3 := hid (show Pt a z (p + 1) q0 (swp g p q) from (by have h := HPT2.out; rw [show q - 1 = q0 by have := HQ0.out; omega] at h; exact h))
            go_wp2_with fail
            refine ⟨⟨p + 1, q0, swp g p q, rfl, rfl, by have := HPB.out; omega, by have := HPQ.out; have := HQ0.out; omega, by have := HPB.out; have := HQ0.out; omega, HR.out, HS2.out, HPT3.out, HG.out⟩, ?_⟩
            have h1 : intOf (.int .i64 (q0 : Int)) = (q0 : Int) := rfl
            have h2 : intOf (.int .i64 ((p : Int) + 1)) = (p : Int) + 1 := rfl
            have h3 : intOf (.int .i64 (qi : Int)) = (qi : Int) := rfl
            have h4 : intOf (.int .i64 (pi : Int)) = (pi : Int) := rfl
            have h5 := HPI.out.1; have h6 := HPJ.out.2.1; have h7 := HPQ.out; have h8 := HQ0.out
            rw [h1, h2, h3, h4]; omega
end Go.Proofs.YtfipdoofgbjbjaaGreat

/- slices.partitionEqualOrdered at words. No condition but sizes. -/
namespace Go.Proofs.YtfipdoofgbjbjaaGreat
open Go.RowKit
attribute [local go_sem] Oper.semAt_some
/-- in the midst of it: those ahead of i are no more than the first, those behind j are more -/
def Pe (a z i j : Nat) (f : Nat → Int) : Prop := (∀ k, a + 1 ≤ k → k < i → f k ≤ f a) ∧ ∀ k, j < k → k < z → f a < f k
theorem Pe.swap {a z i j : Nat} {f : Nat → Int} (h : Pe a z i j f) (hi : a < i) (hij : i < j) (hi2 : f a < f i) (hj2 : f j ≤ f a) : Pe a z (i + 1) (j - 1) (swp f i j) := by
  have e : swp f i j a = f a := swp_o _ (by omega) (by omega)
  refine ⟨fun k h1 h2 => ?_, fun k h1 h2 => ?_⟩
  · rw [e]
    by_cases e2 : k = i
    · subst e2; rw [swp_l]; exact hj2
    · rw [swp_o _ e2 (by omega)]; exact h.1 k h1 (by omega)
  · rw [e]
    by_cases e2 : k = j
    · subst e2; rw [swp_r]; exact hi2
    · rw [swp_o _ (by omega) e2]; exact h.2 k (by omega) h2
def PeP (w : World) (b n a z pv : Nat) (f : Nat → Int) (x : Ending) (w' : World) : Prop :=
  ∃ (m : Nat) (g : Nat → Int), x = .returned (.int .i64 m) ∧ RwS w' b n g ∧ Swp a z f g ∧ a < m ∧ m ≤ z ∧ (∀ k, a ≤ k → k < m → g k ≤ f pv) ∧ (∀ k, m ≤ k → k < z → f pv < g k) ∧ GrownP (fun i => i = b) w w'
set_option maxRecDepth 100000 in
set_option maxHeartbeats 8000000 in
theorem speq_any (b n c0 a z pv : Nat) (f : Nat → Int) (w : World) (h : RwS w b n f) (ha : a < z) (hz : z ≤ n) (hn : n ≤ 1000000) (hp1 : a ≤ pv) (hp2 : pv < z) :
    Calls Tryz.prog 110 #[.slice (some ⟨b, 0, none⟩) n c0, .int .i64 a, .int .i64 z, .int .i64 pv] w (PeP w b n a z pv f) := by
  have HR := hid h; have HG := hid (GrownP.refl (fun i => i = b) w)
  obtain ⟨z0, hz0⟩ : ∃ z0, z = z0 + 1 := ⟨z - 1, by omega⟩
  obtain ⟨a1, ha1⟩ : ∃ a1, a1 = a + 1 := ⟨_, rfl⟩
  have HH := hid (show a < z ∧ z ≤ n ∧ n ≤ 1000000 ∧ a ≤ pv ∧ pv < z ∧ z = z0 + 1 ∧ a1 = a + 1 from ⟨ha, hz, hn, hp1, hp2, hz0, ha1⟩)
  have hw1 : IntKind.i64.wrap ((z : Int) - 1) = (z0 : Int) := by rw [IntKind.wrap_i64]; omega
  have hw2 : IntKind.i64.wrap ((a : Int) + 1) = (a1 : Int) := by rw [IntKind.wrap_i64]; omega
  have hi1 : (a : Int) < (n : Int) := by omega
  have hi2 : (pv : Int) < (n : Int) := by omega
  clear h ha hz hn hp1 hp2 hz0 ha1
  go_enter Tryz.func110, Tryz.ntmps110
  go_upto_region 1 with fail
  have hf1 := HR.out.free (a) ((by have := HH.out; omega)); have hf2 := HR.out.free (pv) ((by have := HH.out; omega)); have hc1 := HR.out.cell (a) ((by have := HH.out; omega)); have hc2 := HR.out.cell (pv) ((by have := HH.out; omega)); have hc3 := HR.out.mid (i := a) (j := pv) ((by have := HH.out; omega)) ((by have := HH.out; omega))
  show Code.wp _ _ _ _ _
  go_region
  clear hf1 hf2 hc1 hc2 hc3
  have bx := (Below.refl ((w.setCell ⟨b, a, none⟩ (.int .u64 (f pv))).setCell ⟨b, pv, none⟩ (.int .u64 (f a))).heap.size ((w.setCell ⟨b, a, none⟩ (.int .u64 (f pv))).setCell ⟨b, pv, none⟩ (.int .u64 (f a)))).drew
  replace HR := hid ((HR.out.swap (i := a) (j := pv) ((by have := HH.out; omega)) ((by have := HH.out; omega))).step bx); replace HG := hid (((HG.out.sc (b := b) (o := a) rfl (.int .u64 (f (pv)))).sc (b := b) (o := pv) rfl (.int .u64 (f (a)))).bl bx)
  clear bx
  generalize ((w.setCell ⟨b, a, none⟩ (.int .u64 (f pv))).setCell ⟨b, pv, none⟩ (.int .u64 (f a))).drew = W1 at *
  have HS0 := hid (show Swp a z f (swp f a pv) from Swp.refl.step (Nat.le_refl _) HH.out.1 HH.out.2.2.2.1 HH.out.2.2.2.2.1)
  have HV0 := hid (swp_l f a pv)
  clear hi2
  go_wp2_with fail
  clear hw1 hw2
  go_loopw [9, 10] (fun i j wr => ∃ (p q : Nat) (g : Nat → Int), i = .int .i64 p ∧ j = .int .i64 q ∧ a1 ≤ p ∧ p ≤ q + 1 ∧ q ≤ z0 ∧ RwS wr b n g ∧ Swp a z f g ∧ Pe a z p q g ∧ g a = f pv ∧ GrownP (fun i => i = b) w wr) (fun i j _ => (intOf j + 1 - intOf i).toNat)
  case atStart => exact ⟨a1, z0, swp f a pv, rfl, rfl, Nat.le_refl _, by have := HH.out; omega, Nat.le_refl _, HR.out, HS0.out, ⟨fun k h1 h2 => by have := HH.out; omega, fun k h1 h2 => by have := HH.out; omega⟩, HV0.out, HG.out⟩
  case round =>
    clear HS0 HV0
    obtain ⟨pi, qi, g, rfl, rfl, hp1, hp2, hp3, hr, hs, hpt, hv, hg⟩ := hrel
    rename World => wr
    replace HR := hid hr; have HS := hid hs; replace HG := hid hg; have HPT0 := hid hpt; have HV := hid hv
    have HB0 := hid (show a1 ≤ pi ∧ pi ≤ qi + 1 ∧ qi ≤ z0 from ⟨hp1, hp2, hp3⟩)
    have HIJ := hid (show pi ≤ qi + 1 ∧ qi < n ∧ n ≤ 1000000 ∧ a < n ∧ a < pi by have := HH.out; omega)
    clear hp1 hp2 hp3 hr hs hg hpt hv
    go_upto_block 2 with fail
    go_cut [9] (fun s9 wx => ∃ p : Nat, s9 = .int .i64 p ∧ pi ≤ p ∧ p ≤ qi + 1 ∧ RwS wx b n g ∧ (∀ k, pi ≤ k → k < p → g k ≤ g a) ∧ GrownP (fun i => i = b) w wx ∧ (p ≤ qi → g a < g p))
    case first =>
      go_wp2_with fail
      go_loopw [9] (fun i wr => ∃ p : Nat, i = .int .i64 p ∧ pi ≤ p ∧ p ≤ qi + 1 ∧ RwS wr b n g ∧ (∀ k, pi ≤ k → k < p → g k ≤ g a) ∧ GrownP (fun i => i = b) w wr) (fun i _ => qi + 1 - (intOf i).toNat)
      case atStart => exact ⟨pi, rfl, by have := HIJ.out; omega, by have := HIJ.out; omega, HR.out, fun k h1 h2 => by omega, HG.out⟩
      case round =>
        rename World => wr
        obtain ⟨p, rfl, hp1, hp2, hr, hpa, hg⟩ := hrel
        have HP := hid (And.intro hp1 hp2); replace HR := hid hr; have HPA := hid hpa; replace HG := hid hg
        clear hp1 hp2 hr hpa hg
        by_cases hgo : p ≤ qi
        rotate_left
        ·skip
         have hd : ¬ ((p : Int) ≤ (qi : Int)) := by omega
         have HNG := hid hgo
         go_upto_region 3 with fail
         clear hgo
         have HBX := hid (Below.refl wr.heap.size wr)
         have bx := (Below.refl wr.heap.size wr).drew
         replace HR := hid (HR.out.step bx); replace HG := hid (HG.out.step bx); replace HBX := hid (below_then HBX.out bx)
         clear bx
         have hszd := hid (show wr.drew.heap.size = wr.heap.size from rfl)
         refine wp_region_noPanic ?_
         refine wp_region_held_drew (S := (fun W' : World => True)) (by kernel_rfl) trivial (fun hS => ?_)
         generalize wr.drew = Wd at *
         refine tk 0 hS ?_
         refine tk 1 hS ?_
         refine tk 2 hS ?_
         refine tk 3 hS ?_
         refine tku 4 hS ?_
         refine tku 5 hS ?_
         refine tku 6 hS ?_
         refine tku 7 hS ?_
         refine tku 8 hS ?_
         refine tku 9 hS ?_
         refine tku 10 hS ?_
         refine tku 11 hS ?_
         refine tku 12 hS ?_
         refine tku 13 hS ?_
         refine tk 14 hS ?_
         refine wpAnyH_done (by kernel_rfl) ?_ _
         refine NoPanic.normal ?_
         clear hS
         go_wp2_with fail
         go_meet
         exact ⟨p, rfl, HP.out.1, HP.out.2, HR.out, HPA.out, HG.out, fun h => absurd h HNG.out⟩
        have hd : (p : Int) ≤ (qi : Int) := by omega
        have HGO := hid hgo
        have hwx : IntKind.i64.wrap ((p : Int) + 1) = ((p + 1 : Nat) : Int) := by have := HIJ.out; rw [IntKind.wrap_i64]; omega
        have HXN := hid (show p < n ∧ a < n by have := HIJ.out; have := HP.out; omega)
        have hi1 : (p : Int) < (n : Int) := by have := HXN.out; omega
        have hi2 : (a : Int) < (n : Int) := by have := HXN.out; omega
        go_upto_region 3 with fail
        clear hgo
        have HBX := hid (Below.refl wr.heap.size wr)
        have bx := (Below.refl wr.heap.size wr).drew
        replace HR := hid (HR.out.step bx); replace HG := hid (HG.out.step bx); replace HBX := hid (below_then HBX.out bx)
        clear bx
        have hszd := hid (show wr.drew.heap.size = wr.heap.size from rfl)
        refine wp_region_noPanic ?_
        refine wp_region_held_drew (S := (fun W' : World => W'.cell? ⟨b, p, none⟩ = some (.int .u64 (g p)) ∧ W'.cell? ⟨b, a, none⟩ = some (.int .u64 (g a)))) (by kernel_rfl) ⟨(HR.out.cell p HXN.out.1), (HR.out.cell a HXN.out.2)⟩ (fun hS => ?_)
        generalize wr.drew = Wd at *
        refine tk 0 hS ?_
        refine tk 1 hS ?_
        refine tk 2 hS ?_
        refine tk 3 hS ?_
        refine tk 4 hS ?_
        refine tk 5 hS ?_
        refine tk 6 hS ?_
        refine tk 7 hS ?_
        refine tk 8 hS ?_
        refine tk 9 hS ?_
        refine tk 10 hS ?_
        refine tk 11 hS ?_
        refine rdy [12] (csy (fun K hK => ?_) AllReadyH.nil)
        go_simp
        refine (less_b (g a) (g p) _).mono ?_
        rintro e w12 ⟨rfl, hb⟩
        have hsz0 := hid (show Wd.heap.size ≤ w12.heap.size from hb.size)
        replace HR := hid (HR.out.step hb); replace HG := hid (HG.out.step hb); replace HBX := hid (below_then HBX.out hb)
        clear hb
        go_wp2_with fail
        clear hS
        refine ky hK ⟨(HR.out.cell p HXN.out.1), (HR.out.cell a HXN.out.2)⟩ fun hS => ?_
        clear hK K
        refine tk 13 hS ?_
        refine tk 14 hS ?_
        refine wpAnyH_done (by kernel_rfl) ?_ _
        refine NoPanic.normal ?_
        clear hS
        by_cases hlt : g a < g p
        ·skip
         have hl : decide (g a < g p) = true := decide_eq_true hlt
         have HLT := hid hlt
         rw [hl]
         go_wp2_with fail
         go_meet
         exact ⟨p, rfl, HP.out.1, HP.out.2, HR.out, HPA.out, HG.out, fun _ => by have := HLT.out; omega⟩
        have hl : decide (g a < g p) = false := decide_eq_false hlt
        have HLT := hid hlt
        rw [hl]
        go_wp2_with fail
        refine ⟨⟨p + 1, rfl, by have := HP.out; omega, by have := HGO.out; omega, HR.out, fun k h1 h2 => ?_, HG.out⟩, ?_⟩
        ·by_cases e : k = p
         · subst e; have := HLT.out; omega
         · exact HPA.out k h1 (by omega)
        have h1 : intOf (.int .i64 ((p : Int) + 1)) = (p : Int) + 1 := rfl
        have h2 : intOf (.int .i64 (p : Int)) = (p : Int) := rfl
        have := HGO.out
        rw [h1, h2]; omega
    case rest =>
      obtain ⟨p, rfl, hp1, hp2, hr, hpa, hg, hst⟩ := hcut
      rename World => w3
      replace HR := hid hr; replace HG := hid hg
      have HPI := hid (And.intro hp1 (And.intro hp2 (And.intro hpa hst)))
      clear hp1 hp2 hr hpa hg hst
      replace HIJ := hid (show pi ≤ p ∧ p ≤ qi + 1 ∧ qi < n ∧ n ≤ 1000000 ∧ a < n ∧ a < pi by have := HPI.out.1; have := HPI.out.2.1; have := HIJ.out; omega)
      go_upto_block 4 with fail
      go_cut [10] (fun s10 wx => ∃ q : Nat, s10 = .int .i64 q ∧ p ≤ q + 1 ∧ q ≤ qi ∧ RwS wx b n g ∧ (∀ k, q < k → k ≤ qi → g a < g k) ∧ GrownP (fun i => i = b) w wx ∧ (p ≤ q → g q ≤ g a))
      case first =>
        go_wp2_with fail
        go_loopw [10] (fun i wr => ∃ q : Nat, i = .int .i64 q ∧ p ≤ q + 1 ∧ q ≤ qi ∧ RwS wr b n g ∧ (∀ k, q < k → k ≤ qi → g a < g k) ∧ GrownP (fun i => i = b) w wr) (fun i _ => (intOf i).toNat)
        case atStart => exact ⟨qi, rfl, by have := HIJ.out; omega, by have := HIJ.out; omega, HR.out, fun k h1 h2 => by omega, HG.out⟩
        case round =>
          rename World => wr
          obtain ⟨q, rfl, hp1, hp2, hr, hpa, hg⟩ := hrel
          have HP := hid (And.intro hp1 hp2); replace HR := hid hr; have HPA := hid hpa; replace HG := hid hg
          clear hp1 hp2 hr hpa hg
          by_cases hgo : p ≤ q
          rotate_left
          ·skip
           have hd : ¬ ((p : Int) ≤ (q : Int)) := by omega
           have HNG := hid hgo
           go_upto_region 5 with fail
           clear hgo
           have HBX := hid (Below.refl wr.heap.size wr)
           have bx := (Below.refl wr.heap.size wr).drew
           replace HR := hid (HR.out.step bx); replace HG := hid (HG.out.step bx); replace HBX := hid (below_then HBX.out bx)
           clear bx
           have hszd := hid (show wr.drew.heap.size = wr.heap.size from rfl)
           refine wp_region_noPanic ?_
           refine wp_region_held_drew (S := (fun W' : World => True)) (by kernel_rfl) trivial (fun hS => ?_)
           generalize wr.drew = Wd at *
           refine tk 0 hS ?_
           refine tk 1 hS ?_
           refine tk 2 hS ?_
           refine tk 3 hS ?_
           refine tku 4 hS ?_
           refine tku 5 hS ?_
           refine tku 6 hS ?_
           refine tku 7 hS ?_
           refine tku 8 hS ?_
           refine tku 9 hS ?_
           refine tku 10 hS ?_
           refine tku 11 hS ?_
           refine tku 12 hS ?_
           refine tk 13 hS ?_
           refine wpAnyH_done (by kernel_rfl) ?_ _
           refine NoPanic.normal ?_
           clear hS
           go_wp2_with fail
           go_meet
           exact ⟨q, rfl, HP.out.1, HP.out.2, HR.out, HPA.out, HG.out, fun h => absurd h HNG.out⟩
          have hd : (p : Int) ≤ (q : Int) := by omega
          have HGO := hid hgo
          obtain ⟨x1, hx1⟩ : ∃ x1, q = x1 + 1 := ⟨q - 1, by have := HIJ.out; omega⟩
          have HX1 := hid hx1
          have hwx : IntKind.i64.wrap ((q : Int) - 1) = (x1 : Int) := by have := HIJ.out; have := HP.out; rw [IntKind.wrap_i64]; omega
          clear hx1
          have HXN := hid (show q < n ∧ a < n by have := HIJ.out; have := HP.out; omega)
          have hi1 : (q : Int) < (n : Int) := by have := HXN.out; omega
          have hi2 : (a : Int) < (n : Int) := by have := HXN.out; omega
          go_upto_region 5 with fail
          clear hgo
          have HBX := hid (Below.refl wr.heap.size wr)
          have bx := (Below.refl wr.heap.size wr).drew
          replace HR := hid (HR.out.step bx); replace HG := hid (HG.out.step bx); replace HBX := hid (below_then HBX.out bx)
          clear bx
          have hszd := hid (show wr.drew.heap.size = wr.heap.size from rfl)
          refine wp_region_noPanic ?_
          refine wp_region_held_drew (S := (fun W' : World => W'.cell? ⟨b, q, none⟩ = some (.int .u64 (g q)) ∧ W'.cell? ⟨b, a, none⟩ = some (.int .u64 (g a)))) (by kernel_rfl) ⟨(HR.out.cell q HXN.out.1), (HR.out.cell a HXN.out.2)⟩ (fun hS => ?_)
          generalize wr.drew = Wd at *
          refine tk 0 hS ?_
          refine tk 1 hS ?_
          refine tk 2 hS ?_
          refine tk 3 hS ?_
          refine tk 4 hS ?_
          refine tk 5 hS ?_
          refine tk 6 hS ?_
          refine tk 7 hS ?_
          refine tk 8 hS ?_
          refine tk 9 hS ?_
          refine tk 10 hS ?_
          refine tk 11 hS ?_
          refine rdy [12] (csy (fun K hK => ?_) AllReadyH.nil)
          go_simp
          refine (less_b (g a) (g q) _).mono ?_
          rintro e w12 ⟨rfl, hb⟩
          have hsz0 := hid (show Wd.heap.size ≤ w12.heap.size from hb.size)
          replace HR := hid (HR.out.step hb); replace HG := hid (HG.out.step hb); replace HBX := hid (below_then HBX.out hb)
          clear hb
          go_wp2_with fail
          clear hS
          refine ky hK ⟨(HR.out.cell q HXN.out.1), (HR.out.cell a HXN.out.2)⟩ fun hS => ?_
          clear hK K
          refine tk 13 hS ?_
          refine wpAnyH_done (by kernel_rfl) ?_ _
          refine NoPanic.normal ?_
          clear hS
          by_cases hlt : g a < g q
          ·skip
           have hl : decide (g a < g q) = true := decide_eq_true hlt
           have HLT := hid hlt
           rw [hl]
           go_wp2_with fail
           refine ⟨⟨x1, rfl, by have := HGO.out; have := HX1.out; omega, by have := HP.out; have := HX1.out; omega, HR.out, fun k h1 h2 => ?_, HG.out⟩, ?_⟩
           ·by_cases e : k = q
            · subst e; have := HLT.out; omega
            · exact HPA.out k (by have := HX1.out; omega) h2
           have h1 : intOf (.int .i64 (x1 : Int)) = (x1 : Int) := rfl
           have h2 : intOf (.int .i64 (q : Int)) = (q : Int) := rfl
           have := HX1.out
           rw [h1, h2]; omega
          have hl : decide (g a < g q) = false := decide_eq_false hlt
          have HLT := hid hlt
          rw [hl]
          go_wp2_with fail
          go_meet
          exact ⟨q, rfl, HP.out.1, HP.out.2, HR.out, HPA.out, HG.out, fun _ => by have := HLT.out; omega⟩
      case rest =>
        obtain ⟨q, rfl, hp1, hp2, hr, hpa, hg, hst⟩ := hcut
        rename World => w5
        replace HR := hid hr; replace HG := hid hg
        have HPJ := hid (And.intro hp1 (And.intro hp2 (And.intro hpa hst)))
        clear hp1 hp2 hr hpa hg hst
        have HPT := hid (show Pe a z p q g from ⟨fun k h1 h2 => by
          rcases Nat.lt_or_ge k pi with h | h
          · exact HPT0.out.1 k h1 h
          · exact HPI.out.2.2.1 k h h2, fun k h1 h2 => by
          rcases Nat.lt_or_ge qi k with h | h
          · exact HPT0.out.2 k h h2
          · exact HPJ.out.2.2.1 k h1 h⟩)
        have HPB := hid (show a1 ≤ p ∧ q ≤ z0 by have := HPI.out.1; have := HPJ.out.2.1; have := HB0.out; omega)
        by_cases hpq : q < p
        ·skip
         have hd : (q : Int) < (p : Int) := by omega
         have HPQ := hid (show p = q + 1 ∧ a < p ∧ p ≤ z by have := HPJ.out.1; have := HPB.out; have := HH.out; omega)
         go_wp2_with fail
         refine bodyPost_ret (v := .int .i64 p) (by simp [results, Tryz.results110, go_sem]) rfl ⟨p, g, rfl, HR.out, HS.out, HPQ.out.2.1, HPQ.out.2.2, fun k h1 h2 => ?_, fun k h1 h2 => ?_, HG.out⟩
         ·rw [← HV.out]
          by_cases e : k = a
          ·subst e; exact Int.le_refl _
          ·exact HPT.out.1 k (by omega) h2
         ·rw [← HV.out]
          exact HPT.out.2 k (by have := HPQ.out; omega) h2
        have hd : ¬ ((q : Int) < (p : Int)) := by omega
        have HPQ := hid (show p < q by
          rcases Nat.lt_or_ge p q with h | h
          · exact h
          · obtain rfl : p = q := by omega
            have h1 := HPJ.out.2.2.2 (Nat.le_refl _); have h2 := HPI.out.2.2.2 (by have := HPJ.out.2.1; omega); omega)
        have HPN := hid (show p < n ∧ q < n ∧ a1 ≤ p ∧ q ≤ z0 by have := HPB.out; have := HPQ.out; have := HH.out; omega)
        have hi2 : (q : Int) < (n : Int) := by have := HPN.out; omega
        have hi3 : (p : Int) < (n : Int) := by have := HPN.out; omega
        obtain ⟨q0, hq0⟩ : ∃ q0, q = q0 + 1 := ⟨q - 1, by have := HPQ.out; omega⟩
        have HQ0 := hid hq0
        have hw3 : IntKind.i64.wrap ((q : Int) - 1) = (q0 : Int) := by have := HPN.out; have := HH.out; rw [IntKind.wrap_i64]; omega
        have hw4 : IntKind.i64.wrap ((p : Int) + 1) = ((p + 1 : Nat) : Int) := by have := HPN.out; have := HH.out; rw [IntKind.wrap_i64]; omega
        have HPT2 := hid (HPT.out.swap (by have := HPN.out; have := HH.out; omega) HPQ.out (HPI.out.2.2.2 (by have := HPJ.out.2.1; have := HPQ.out; omega)) (HPJ.out.2.2.2 (by have := HPQ.out; omega)))
        go_upto_region 8 with fail
        clear hd hpq hq0
        have hf1 := HR.out.free (p) (HPN.out.1); have hf2 := HR.out.free (q) (HPN.out.2.1); have hc1 := HR.out.cell (p) (HPN.out.1); have hc2 := HR.out.cell (q) (HPN.out.2.1); have hc3 := HR.out.mid (i := p) (j := q) (HPN.out.1) (HPN.out.2.1)
        show Code.wp _ _ _ _ _
        go_region
        clear hf1 hf2 hc1 hc2 hc3
        have bx := (Below.refl ((w5.setCell ⟨b, p, none⟩ (.int .u64 (g q))).setCell ⟨b, q, none⟩ (.int .u64 (g p))).heap.size ((w5.setCell ⟨b, p, none⟩ (.int .u64 (g q))).setCell ⟨b, q, none⟩ (.int .u64 (g p)))).drew
        replace HR := hid ((HR.out.swap (i := p) (j := q) (HPN.out.1) (HPN.out.2.1)).step bx); replace HG := hid (((HG.out.sc (b := b) (o := p) rfl (.int .u64 (g (q)))).sc (b := b) (o := q) rfl (.int .u64 (g (p)))).bl bx)
        clear bx
        generalize ((w5.setCell ⟨b, p, none⟩ (.int .u64 (g q))).setCell ⟨b, q, none⟩ (.int .u64 (g p))).drew = W9 at *
        have HS2 := hid (HS.out.step (i := p) (j := q) (by have := HPN.out; have := HH.out; omega) (by have := HPN.out; have := HH.out; have := HPQ.out; omega) (by have := HPN.out; have := HPQ.out; have := HH.out; omega) (by have := HPN.out; have := HH.out; omega))
        have HPT3 := hid (show Pe a z (p + 1) q0 (swp g p q) from (by have h := HPT2.out; rw [show q - 1 = q0 by have := HQ0.out; omega] at h; exact h))
        have HV2 := hid (show swp g p q a = f pv by rw [swp_o _ (by have := HPN.out; have := HH.out; omega) (by have := HPN.out; have := HPQ.out; have := HH.out; omega)]; exact HV.out)
        go_wp2_with fail
        refine ⟨⟨p + 1, q0, swp g p q, rfl, rfl, by have := HPB.out; omega, by have := HPQ.out; have := HQ0.out; omega, by have := HPB.out; have := HQ0.out; omega, HR.out, HS2.out, HPT3.out, HV2.out, HG.out⟩, ?_⟩
        have h1 : intOf (.int .i64 (q0 : Int)) = (q0 : Int) := rfl
        have h2 : intOf (.int .i64 ((p : Int) + 1)) = (p : Int) + 1 := rfl
        have h3 : intOf (.int .i64 (qi : Int)) = (qi : Int) := rfl
        have h4 : intOf (.int .i64 (pi : Int)) = (pi : Int) := rfl
        have h5 := HPI.out.1; have h6 := HPJ.out.2.1; have h7 := HPQ.out; have h8 := HQ0.out
        rw [h1, h2, h3, h4]; omega
end Go.Proofs.YtfipdoofgbjbjaaGreat

/- slices.partialInsertionSortOrdered at words. No condition but sizes. -/
namespace Go.Proofs.YtfipdoofgbjbjaaGreat
open Go.RowKit
attribute [local go_sem] Oper.semAt_some
/-- what stands ahead of it is no more -/
def LB (a z : Nat) (f : Nat → Int) : Prop := 0 < a → ∀ k, a ≤ k → k < z → f (a - 1) ≤ f k
theorem LB.swp {a z : Nat} {f g : Nat → Int} (h : LB a z f) (hs : Swp a z f g) : LB a z g := fun h0 => by
  rw [hs.out (.inl (by omega))]
  exact hs.all (h h0)
def PiP (w : World) (b n a z : Nat) (f : Nat → Int) (x : Ending) (w' : World) : Prop :=
  ∃ (ok : Bool) (g : Nat → Int), x = .returned (.bool ok) ∧ RwS w' b n g ∧ Swp a z f g ∧ (ok = true → Srt a z g) ∧ GrownP (fun i => i = b) w w'
theorem Srt.up {a p : Nat} {g : Nat → Int} (h : Srt a p g) (ha : a < p) (hl : g (p - 1) ≤ g p) : Srt a (p + 1) g := fun i j h1 h2 h3 => by
  by_cases e : j = p
  · subst e
    by_cases e2 : i = j - 1
    · subst e2; exact hl
    · exact Int.le_trans (h i (j - 1) h1 (by omega) (by omega)) hl
  · exact h i j h1 h2 (by omega)
theorem Srt.same {a p : Nat} {g g' : Nat → Int} (h : Srt a p g) (he : ∀ k, k < p → g' k = g k) : Srt a p g' := fun i j h1 h2 h3 => by
  rw [he i (by omega), he j h3]; exact h i j h1 h2 h3
set_option maxRecDepth 100000 in
set_option maxHeartbeats 8000000 in
theorem spins_any (b n c0 a z : Nat) (f : Nat → Int) (w : World) (h : RwS w b n f) (ha : a < z) (hz : z ≤ n) (hn : n ≤ 1000000) (hl : LB a z f) :
    Calls Tryz.prog 108 #[.slice (some ⟨b, 0, none⟩) n c0, .int .i64 a, .int .i64 z] w (PiP w b n a z f) := by
  have HR := hid h; have HG := hid (GrownP.refl (fun i => i = b) w); have HLB := hid hl
  obtain ⟨a1, ha1⟩ : ∃ a1, a1 = a + 1 := ⟨_, rfl⟩
  have HH := hid (show a < z ∧ z ≤ n ∧ n ≤ 1000000 ∧ a1 = a + 1 from ⟨ha, hz, hn, ha1⟩)
  have hw2 : IntKind.i64.wrap ((a : Int) + 1) = (a1 : Int) := by rw [IntKind.wrap_i64]; omega
  clear h ha hz hn ha1 hl
  go_enter Tryz.func108, Tryz.ntmps108
  go_wp2_with fail
  clear hw2
  go_loopw [7, 8] (fun i j wr => ∃ (p t : Nat) (g : Nat → Int), i = .int .i64 p ∧ j = .int .i64 t ∧ a1 ≤ p ∧ p ≤ z ∧ t ≤ 5 ∧ RwS wr b n g ∧ Swp a z f g ∧ Srt a p g ∧ GrownP (fun i => i = b) w wr) (fun _ j _ => (5 - intOf j).toNat)
  case atStart => exact ⟨a1, 0, f, rfl, rfl, Nat.le_refl _, by have := HH.out; omega, by omega, HR.out, .refl, fun i j h1 h2 h3 => by have := HH.out; omega, HG.out⟩
  case round =>
    obtain ⟨pi, t, g, rfl, rfl, hp1, hp2, ht, hr, hs, ho, hg⟩ := hrel
    rename World => wr
    replace HR := hid hr; have HS := hid hs; replace HG := hid hg; have HO := hid ho
    have HB0 := hid (show a1 ≤ pi ∧ pi ≤ z ∧ t ≤ 5 from ⟨hp1, hp2, ht⟩)
    clear hp1 hp2 hr hs hg ho
    by_cases ht5 : t < 5
    rotate_left
    ·skip
     have hd : ¬ ((t : Int) < 5) := by omega
     go_wp2_with fail
     refine bodyPost_ret (v := .bool false) (by simp [results, Tryz.results108, go_sem]) rfl ⟨false, g, rfl, HR.out, HS.out, fun h => absurd h (by decide), HG.out⟩
    have hd : (t : Int) < 5 := by omega
    have HT := hid ht5
    clear ht
    go_upto_block 2 with fail
    clear hd ht5
    go_cut [7] (fun s7 wx => ∃ p : Nat, s7 = .int .i64 p ∧ a1 ≤ p ∧ p ≤ z ∧ RwS wx b n g ∧ Srt a p g ∧ (p < z → g p < g (p - 1)) ∧ GrownP (fun i => i = b) w wx)
    case first =>
      go_wp2_with fail
      go_loopw [7] (fun i wr => ∃ p : Nat, i = .int .i64 p ∧ a1 ≤ p ∧ p ≤ z ∧ RwS wr b n g ∧ Srt a p g ∧ GrownP (fun i => i = b) w wr) (fun i _ => z - (intOf i).toNat)
      case atStart => exact ⟨pi, rfl, HB0.out.1, HB0.out.2.1, HR.out, HO.out, HG.out⟩
      case round =>
        rename World => wr
        obtain ⟨p, rfl, hp1, hp2, hr, ho, hg⟩ := hrel
        have HP := hid (And.intro hp1 hp2); replace HR := hid hr; replace HO := hid ho; replace HG := hid hg
        clear hp1 hp2 hr ho hg
        by_cases hgo : p < z
        rotate_left
        ·skip
         have hd : ¬ ((p : Int) < (z : Int)) := by omega
         have HNG := hid hgo
         go_upto_region 5 with fail
         clear hgo
         have HBX := hid (Below.refl wr.heap.size wr)
         have bx := (Below.refl wr.heap.size wr).drew
         replace HR := hid (HR.out.step bx); replace HG := hid (HG.out.step bx); replace HBX := hid (below_then HBX.out bx)
         clear bx
         have hszd := hid (show wr.drew.heap.size = wr.heap.size from rfl)
         refine wp_region_noPanic ?_
         refine wp_region_held_drew (S := (fun W' : World => True)) (by kernel_rfl) trivial (fun hS => ?_)
         generalize wr.drew = Wd at *
         refine tk 0 hS ?_
         refine tk 1 hS ?_
         refine tk 2 hS ?_
         refine tk 3 hS ?_
         refine tku 4 hS ?_
         refine tku 5 hS ?_
         refine tku 6 hS ?_
         refine tku 7 hS ?_
         refine tku 8 hS ?_
         refine tku 9 hS ?_
         refine tku 10 hS ?_
         refine tku 11 hS ?_
         refine tku 12 hS ?_
         refine tku 13 hS ?_
         refine tku 14 hS ?_
         refine tk 15 hS ?_
         refine wpAnyH_done (by kernel_rfl) ?_ _
         refine NoPanic.normal ?_
         clear hS
         go_wp2_with fail
         go_meet
         exact ⟨p, rfl, HP.out.1, HP.out.2, HR.out, HO.out, fun h => absurd h HNG.out, HG.out⟩
        have hd : (p : Int) < (z : Int) := by omega
        have HGO := hid hgo
        obtain ⟨p0, hp0⟩ : ∃ p0, p = p0 + 1 := ⟨p - 1, by have := HP.out; have := HH.out; omega⟩
        have HP0 := hid hp0
        have hwx : IntKind.i64.wrap ((p : Int) + 1) = ((p + 1 : Nat) : Int) := by have := HH.out; rw [IntKind.wrap_i64]; omega
        have hwy : IntKind.i64.wrap ((p : Int) - 1) = (p0 : Int) := by have := HH.out; rw [IntKind.wrap_i64]; omega
        have HXN := hid (show p < n ∧ p0 < n by have := HH.out; omega)
        have hi1 : (p : Int) < (n : Int) := by have := HXN.out; omega
        have hi2 : (p0 : Int) < (n : Int) := by have := HXN.out; omega
        go_upto_region 5 with fail
        clear hgo hp0
        have HBX := hid (Below.refl wr.heap.size wr)
        have bx := (Below.refl wr.heap.size wr).drew
        replace HR := hid (HR.out.step bx); replace HG := hid (HG.out.step bx); replace HBX := hid (below_then HBX.out bx)
        clear bx
        have hszd := hid (show wr.drew.heap.size = wr.heap.size from rfl)
        refine wp_region_noPanic ?_
        refine wp_region_held_drew (S := (fun W' : World => W'.cell? ⟨b, p, none⟩ = some (.int .u64 (g p)) ∧ W'.cell? ⟨b, p0, none⟩ = some (.int .u64 (g p0)))) (by kernel_rfl) ⟨(HR.out.cell p HXN.out.1), (HR.out.cell p0 HXN.out.2)⟩ (fun hS => ?_)
        generalize wr.drew = Wd at *
        refine tk 0 hS ?_
        refine tk 1 hS ?_
        refine tk 2 hS ?_
        refine tk 3 hS ?_
        refine tk 4 hS ?_
        refine tk 5 hS ?_
        refine tk 6 hS ?_
        refine tk 7 hS ?_
        refine tk 8 hS ?_
        refine tk 9 hS ?_
        refine tk 10 hS ?_
        refine tk 11 hS ?_
        refine tk 12 hS ?_
        refine rdy [13] (csy (fun K hK => ?_) AllReadyH.nil)
        go_simp
        refine (less_b (g p) (g p0) _).mono ?_
        rintro e w12 ⟨rfl, hb⟩
        have hsz0 := hid (show Wd.heap.size ≤ w12.heap.size from hb.size)
        replace HR := hid (HR.out.step hb); replace HG := hid (HG.out.step hb); replace HBX := hid (below_then HBX.out hb)
        clear hb
        go_wp2_with fail
        clear hS
        refine ky hK ⟨(HR.out.cell p HXN.out.1), (HR.out.cell p0 HXN.out.2)⟩ fun hS => ?_
        clear hK K
        refine tk 14 hS ?_
        refine tk 15 hS ?_
        refine wpAnyH_done (by kernel_rfl) ?_ _
        refine NoPanic.normal ?_
        clear hS
        by_cases hlt : g p < g p0
        ·skip
         have hl : decide (g p < g p0) = true := decide_eq_true hlt
         have HLT := hid hlt
         rw [hl]
         go_wp2_with fail
         go_meet
         exact ⟨p, rfl, HP.out.1, HP.out.2, HR.out, HO.out, fun _ => by have h1 := HLT.out; rw [show p - 1 = p0 by have := HP0.out; omega]; exact h1, HG.out⟩
        have hl : decide (g p < g p0) = false := decide_eq_false hlt
        have HLT := hid hlt
        rw [hl]
        go_wp2_with fail
        refine ⟨⟨p + 1, rfl, by have := HP.out; omega, by have := HGO.out; omega, HR.out, HO.out.up (by have := HP.out; have := HH.out; omega) (by rw [show p - 1 = p0 by have := HP0.out; omega]; have := HLT.out; omega), HG.out⟩, ?_⟩
        have h1 : intOf (.int .i64 ((p : Int) + 1)) = (p : Int) + 1 := rfl
        have h2 : intOf (.int .i64 (p : Int)) = (p : Int) := rfl
        have := HGO.out
        rw [h1, h2]; omega
    case rest =>
      obtain ⟨p, rfl, hp1, hp2, hr, ho, hst, hg⟩ := hcut
      rename World => w3
      replace HR := hid hr; replace HG := hid hg; replace HO := hid ho; have HST := hid hst
      have HP := hid (And.intro hp1 hp2)
      clear hp1 hp2 hr ho hst hg
      by_cases hpz : p = z
      ·skip
       subst hpz
       go_wp2_with fail
       refine bodyPost_ret (v := .bool true) (by simp [results, Tryz.results108, go_sem]) rfl ⟨true, g, rfl, HR.out, HS.out, fun _ => HO.out, HG.out⟩
      have hd : ¬ ((p : Int) = (z : Int)) := by omega
      have hdb : ((p : Int) == (z : Int)) = false := by simpa using hd
      have HPZ := hid (show p < z by have := HP.out; omega)
      obtain ⟨ln, hln⟩ : ∃ ln : Int, ln = (z : Int) - (a : Int) := ⟨_, rfl⟩
      have hw3 : IntKind.i64.wrap ((z : Int) - (a : Int)) = ln := by have := HH.out; rw [IntKind.wrap_i64]; omega
      clear hpz hln
      by_cases h50 : ln < 50
      ·skip
       go_wp2_with fail
       refine bodyPost_ret (v := .bool false) (by simp [results, Tryz.results108, go_sem]) rfl ⟨false, g, rfl, HR.out, HS.out, fun h => absurd h (by decide), HG.out⟩
      obtain ⟨p0, hp0⟩ : ∃ p0, p = p0 + 1 := ⟨p - 1, by have := HP.out; have := HH.out; omega⟩
      have HP0 := hid hp0
      have hwy : IntKind.i64.wrap ((p : Int) - 1) = (p0 : Int) := by have := HH.out; have := HPZ.out; rw [IntKind.wrap_i64]; omega
      have HXN := hid (show p < n ∧ p0 < n ∧ a ≤ p0 by have := HH.out; have := HPZ.out; have := HP.out; omega)
      have hi1 : (p : Int) < (n : Int) := by have := HXN.out; omega
      have hi2 : (p0 : Int) < (n : Int) := by have := HXN.out; omega
      clear hp0
      go_upto_region 11 with fail
      clear hd hdb hw3 h50
      have hf1 := HR.out.free (p) (HXN.out.1); have hf2 := HR.out.free (p0) (HXN.out.2.1); have hc1 := HR.out.cell (p) (HXN.out.1); have hc2 := HR.out.cell (p0) (HXN.out.2.1); have hc3 := HR.out.mid (i := p) (j := p0) (HXN.out.1) (HXN.out.2.1)
      show Code.wp _ _ _ _ _
      go_region
      clear hf1 hf2 hc1 hc2 hc3
      have bx := (Below.refl ((w3.setCell ⟨b, p, none⟩ (.int .u64 (g p0))).setCell ⟨b, p0, none⟩ (.int .u64 (g p))).heap.size ((w3.setCell ⟨b, p, none⟩ (.int .u64 (g p0))).setCell ⟨b, p0, none⟩ (.int .u64 (g p)))).drew
      replace HR := hid ((HR.out.swap (i := p) (j := p0) (HXN.out.1) (HXN.out.2.1)).step bx); replace HG := hid (((HG.out.sc (b := b) (o := p) rfl (.int .u64 (g (p0)))).sc (b := b) (o := p0) rfl (.int .u64 (g (p)))).bl bx)
      clear bx
      generalize ((w3.setCell ⟨b, p, none⟩ (.int .u64 (g p0))).setCell ⟨b, p0, none⟩ (.int .u64 (g p))).drew = W4 at *
      obtain ⟨g1, hg1⟩ : ∃ g1, g1 = swp g p p0 := ⟨_, rfl⟩
      have HO1 := hid (show Srt a p0 g1 from (show Srt a p0 g from fun i j h1 h2 h3 => HO.out i j h1 h2 (by have := HP0.out; omega)).same (fun k hk => by rw [hg1]; exact swp_o _ (by have := HP0.out; omega) (by omega)))
      have HS1 := hid (show Swp a z f g1 by rw [hg1]; exact HS.out.step (by have := HXN.out; have := HP0.out; omega) HPZ.out HXN.out.2.2 (by have := HPZ.out; have := HP0.out; omega))
      rw [← hg1] at HR
      clear hg1 HO HS
      obtain ⟨d, hd⟩ : ∃ d, d = p - a := ⟨_, rfl⟩
      have HD := hid (show p = a + d by have := HXN.out; have := HP0.out; omega)
      have hwd : IntKind.i64.wrap ((p : Int) - (a : Int)) = (d : Int) := by have := HH.out; have := HXN.out; have := HP0.out; rw [IntKind.wrap_i64]; omega
      clear hd hi1 hi2
      go_upto_if 61 with fail
      clear hwd
      obtain ⟨bd, hbd⟩ : ∃ bd, bd = decide ((2 : Int) ≤ (d : Int)) := ⟨_, rfl⟩
      rw [← hbd]
      have HBD := hid hbd
      clear hbd
      go_cut [9] (fun s9 wx => ∃ g2 : Nat → Int, RwS wx b n g2 ∧ Swp a z f g2 ∧ Srt a p g2 ∧ GrownP (fun i => i = b) w wx)
      case first =>
        rcases bd with _ | _
        ·skip
         have HD2 := hid (show ¬ 2 ≤ d by have := of_decide_eq_false HBD.out.symm; omega)
         go_wp2_with fail
         go_meet
         exact ⟨g1, HR.out, HS1.out, fun i j h1 h2 h3 => by have := HD.out; have := HD2.out; omega, HG.out⟩
        go_wp2_with fail
        go_loopw [9] (fun i w2 => ∃ (q : Nat) (h : Nat → Int), i = .int .i64 q ∧ a ≤ q ∧ q ≤ p0 ∧ RwS w2 b n h ∧ Swp a z f h ∧ In1 a p0 q h ∧ GrownP (fun i => i = b) w w2) (fun i _ => (intOf i).toNat)
        case atStart => exact ⟨p0, g1, rfl, HXN.out.2.2, Nat.le_refl _, HR.out, HS1.out, In1.start HO1.out, HG.out⟩
        case round =>
          rename World => w2
          obtain ⟨q, h, rfl, hq1, hq2, hr, hs, hi, hg⟩ := hrel
          replace HR := hid hr; replace HS1 := hid hs; have HIN := hid hi; replace HG := hid hg; have HQ := hid (And.intro hq1 hq2)
          clear hq1 hq2 hr hs hi hg
          have HLB2 := hid (HLB.out.swp HS1.out)
          by_cases hq0 : q = 0
          ·skip
           subst hq0
           have HFI := hid (show Srt a p h by
             have e : a = 0 := by have := HQ.out; omega
             subst e
             have := HIN.out.low
             rw [← HP0.out] at this; exact this)
           go_wp2_with fail
           go_meet
           exact ⟨h, HR.out, HS1.out, HFI.out, HG.out⟩
          obtain ⟨q0, hq1⟩ : ∃ q0, q = q0 + 1 := ⟨q - 1, by omega⟩
          have HQ0 := hid hq1
          have hd : (1 : Int) ≤ (q : Int) := by omega
          have hw5 : IntKind.i64.wrap ((q : Int) - 1) = (q0 : Int) := by have := HQ.out; have := HXN.out; have := HH.out; rw [IntKind.wrap_i64]; omega
          have HQN := hid (show q < n ∧ q0 < n by have := HQ.out; have := HXN.out; omega)
          have hi1 : (q : Int) < (n : Int) := by have := HQN.out; omega
          have hi2 : (q0 : Int) < (n : Int) := by have := HQN.out; omega
          clear hq0 hq1
          go_upto_region 16 with fail
          clear hd
          have HBX := hid (Below.refl w2.heap.size w2)
          have bx := (Below.refl w2.heap.size w2).drew
          replace HR := hid (HR.out.step bx); replace HG := hid (HG.out.step bx); replace HBX := hid (below_then HBX.out bx)
          clear bx
          have hszd := hid (show w2.drew.heap.size = w2.heap.size from rfl)
          refine wp_region_noPanic ?_
          refine wp_region_held_drew (S := (fun W' : World => W'.cell? ⟨b, q, none⟩ = some (.int .u64 (h q)) ∧ W'.cell? ⟨b, q0, none⟩ = some (.int .u64 (h q0)))) (by kernel_rfl) ⟨(HR.out.cell q HQN.out.1), (HR.out.cell q0 HQN.out.2)⟩ (fun hS => ?_)
          generalize w2.drew = Wd at *
          refine tk 0 hS ?_
          refine tk 1 hS ?_
          refine tk 2 hS ?_
          refine tk 3 hS ?_
          refine tk 4 hS ?_
          refine tk 5 hS ?_
          refine tk 6 hS ?_
          refine tk 7 hS ?_
          refine tk 8 hS ?_
          refine rdy [9] (csy (fun K hK => ?_) AllReadyH.nil)
          go_simp
          refine (less_b (h q) (h q0) _).mono ?_
          rintro e w9 ⟨rfl, hb⟩
          have hsz0 := hid (show Wd.heap.size ≤ w9.heap.size from hb.size)
          replace HR := hid (HR.out.step hb); replace HG := hid (HG.out.step hb); replace HBX := hid (below_then HBX.out hb)
          clear hb
          go_wp2_with fail
          clear hS
          refine ky hK ⟨(HR.out.cell q HQN.out.1), (HR.out.cell q0 HQN.out.2)⟩ fun hS => ?_
          clear hK K
          refine tk 10 hS ?_
          refine wpAnyH_done (by kernel_rfl) ?_ _
          refine NoPanic.normal ?_
          clear hS
          by_cases hlt : h q < h q0
          rotate_left
          ·skip
           have hl : decide (h q < h q0) = false := decide_eq_false hlt
           have HFI := hid (show Srt a p h by
             rw [HP0.out]
             by_cases e : q = a
             · subst e; exact HIN.out.low
             · exact (show In1 a p0 (q0 + 1) h from HQ0.out ▸ HIN.out).stop (by have := HQ.out; have := HQ0.out; omega) (by have := HQ.out; have := HQ0.out; omega) (by rw [← HQ0.out]; omega))
           rw [hl]
           clear hl hlt
           go_wp2_with fail
           go_meet
           exact ⟨h, HR.out, HS1.out, HFI.out, HG.out⟩
          have hl : decide (h q < h q0) = true := decide_eq_true hlt
          have HQA := hid (show a ≤ q0 by
            rcases Nat.lt_or_ge q0 a with h1 | h1
            · have e : q = a := by have := HQ.out; have := HQ0.out; omega
              have h2 := HLB2.out (by have := HQ0.out; omega) q (by omega) (by have := HQ.out; have := HXN.out; have := HPZ.out; have := HP0.out; omega)
              rw [show a - 1 = q0 by have := HQ0.out; omega] at h2; omega
            · exact h1)
          have HNX := hid (show In1 a p0 q0 (swp h q q0) from HQ0.out ▸ (show In1 a p0 (q0 + 1) h from HQ0.out ▸ HIN.out).next HQA.out (by have := HQ.out; have := HQ0.out; omega) (by rw [← HQ0.out]; exact hlt))
          rw [hl]
          clear hl hlt
          go_upto_region 17 with fail
          have hf1 := HR.out.free (q) (HQN.out.1); have hf2 := HR.out.free (q0) (HQN.out.2); have hc1 := HR.out.cell (q) (HQN.out.1); have hc2 := HR.out.cell (q0) (HQN.out.2); have hc3 := HR.out.mid (i := q) (j := q0) (HQN.out.1) (HQN.out.2)
          show Code.wp _ _ _ _ _
          go_region
          clear hf1 hf2 hc1 hc2 hc3
          have bx := (Below.refl ((w9.setCell ⟨b, q, none⟩ (.int .u64 (h q0))).setCell ⟨b, q0, none⟩ (.int .u64 (h q))).heap.size ((w9.setCell ⟨b, q, none⟩ (.int .u64 (h q0))).setCell ⟨b, q0, none⟩ (.int .u64 (h q)))).drew
          replace HR := hid ((HR.out.swap (i := q) (j := q0) (HQN.out.1) (HQN.out.2)).step bx); replace HG := hid (((HG.out.sc (b := b) (o := q) rfl (.int .u64 (h (q0)))).sc (b := b) (o := q0) rfl (.int .u64 (h (q)))).bl bx)
          clear bx
          generalize ((w9.setCell ⟨b, q, none⟩ (.int .u64 (h q0))).setCell ⟨b, q0, none⟩ (.int .u64 (h q))).drew = W6 at *
          go_wp2_with fail
          refine ⟨⟨q0, swp h q q0, rfl, HQA.out, by have := HQ.out; have := HQ0.out; omega, HR.out, HS1.out.step HQ.out.1 (by have := HQ.out; have := HPZ.out; have := HP0.out; omega) HQA.out (by have := HQ.out; have := HQ0.out; have := HPZ.out; have := HP0.out; omega), HNX.out, HG.out⟩, ?_⟩
          have h1 : intOf (.int .i64 (q0 : Int)) = (q0 : Int) := rfl
          have h2 : intOf (.int .i64 (q : Int)) = (q : Int) := rfl
          have := HQ0.out
          rw [h1, h2]; omega
      case rest =>
        obtain ⟨g2, hr, hs, ho, hg⟩ := hcut
        clear HBD
        rename World => w5
        replace HR := hid hr; have HS := hid hs; have HO := hid ho; replace HG := hid hg
        clear hr hs ho hg HS1 HO1
        obtain ⟨e, he⟩ : ∃ e, e = z - p := ⟨_, rfl⟩
        have HE := hid (show z = p + e by have := HPZ.out; omega)
        have hwe : IntKind.i64.wrap ((z : Int) - (p : Int)) = (e : Int) := by have := HH.out; have := HPZ.out; rw [IntKind.wrap_i64]; omega
        have hwp : IntKind.i64.wrap ((p : Int) + 1) = ((p + 1 : Nat) : Int) := by have := HH.out; have := HPZ.out; rw [IntKind.wrap_i64]; omega
        have hwt : IntKind.i64.wrap ((t : Int) + 1) = ((t + 1 : Nat) : Int) := by have := HT.out; rw [IntKind.wrap_i64]; omega
        clear he
        go_upto_if 98 with fail
        clear hwe
        obtain ⟨bd, hbd⟩ : ∃ bd, bd = decide ((2 : Int) ≤ (e : Int)) := ⟨_, rfl⟩
        rw [← hbd]
        have HBD := hid hbd
        clear hbd
        rcases bd with _ | _
        ·skip
         go_wp2_with fail
         refine ⟨⟨p, t + 1, g2, rfl, rfl, HP.out.1, HP.out.2, HT.out, HR.out, HS.out, HO.out, HG.out⟩, ?_⟩
         have h1 : intOf (.int .i64 ((t : Int) + 1)) = (t : Int) + 1 := rfl
         have h2 : intOf (.int .i64 (t : Int)) = (t : Int) := rfl
         have := HT.out
         rw [h1, h2]; omega
        go_wp2_with fail
        go_loopw [10] (fun i w2 => ∃ (q : Nat) (h : Nat → Int), i = .int .i64 q ∧ p < q ∧ q ≤ z ∧ RwS w2 b n h ∧ Swp a z f h ∧ Srt a p h ∧ GrownP (fun i => i = b) w w2) (fun i _ => z - (intOf i).toNat)
        case atStart => exact ⟨p + 1, g2, rfl, Nat.lt_succ_self _, HPZ.out, HR.out, HS.out, HO.out, HG.out⟩
        case round =>
          rename World => w2
          obtain ⟨q, h, rfl, hq1, hq2, hr, hs, hi, hg⟩ := hrel
          replace HR := hid hr; replace HS := hid hs; replace HO := hid hi; replace HG := hid hg; have HQ := hid (And.intro hq1 hq2)
          clear hq1 hq2 hr hs hi hg
          by_cases hqz : q < z
          rotate_left
          ·skip
           have hd : ¬ ((q : Int) < (z : Int)) := by omega
           clear hqz
           go_wp2_with fail
           refine ⟨⟨p, t + 1, h, rfl, rfl, HP.out.1, HP.out.2, HT.out, HR.out, HS.out, HO.out, HG.out⟩, ?_⟩
           have h1 : intOf (.int .i64 ((t : Int) + 1)) = (t : Int) + 1 := rfl
           have h2 : intOf (.int .i64 (t : Int)) = (t : Int) := rfl
           have := HT.out
           rw [h1, h2]; omega
          obtain ⟨q0, hq1⟩ : ∃ q0, q = q0 + 1 := ⟨q - 1, by have := HQ.out; omega⟩
          have HQ0 := hid hq1
          have hd : (q : Int) < (z : Int) := by omega
          have HQZ := hid hqz
          have hw5 : IntKind.i64.wrap ((q : Int) - 1) = (q0 : Int) := by have := HH.out; rw [IntKind.wrap_i64]; omega
          have hw6 : IntKind.i64.wrap ((q : Int) + 1) = ((q + 1 : Nat) : Int) := by have := HH.out; rw [IntKind.wrap_i64]; omega
          have HQN := hid (show q < n ∧ q0 < n ∧ p ≤ q0 by have := HQ.out; have := HH.out; omega)
          have hi1 : (q : Int) < (n : Int) := by have := HQN.out; omega
          have hi2 : (q0 : Int) < (n : Int) := by have := HQN.out; omega
          clear hqz hq1
          go_upto_region 22 with fail
          clear hd
          have HBX := hid (Below.refl w2.heap.size w2)
          have bx := (Below.refl w2.heap.size w2).drew
          replace HR := hid (HR.out.step bx); replace HG := hid (HG.out.step bx); replace HBX := hid (below_then HBX.out bx)
          clear bx
          have hszd := hid (show w2.drew.heap.size = w2.heap.size from rfl)
          refine wp_region_noPanic ?_
          refine wp_region_held_drew (S := (fun W' : World => W'.cell? ⟨b, q, none⟩ = some (.int .u64 (h q)) ∧ W'.cell? ⟨b, q0, none⟩ = some (.int .u64 (h q0)))) (by kernel_rfl) ⟨(HR.out.cell q HQN.out.1), (HR.out.cell q0 HQN.out.2.1)⟩ (fun hS => ?_)
          generalize w2.drew = Wd at *
          refine tk 0 hS ?_
          refine tk 1 hS ?_
          refine tk 2 hS ?_
          refine tk 3 hS ?_
          refine tk 4 hS ?_
          refine tk 5 hS ?_
          refine tk 6 hS ?_
          refine tk 7 hS ?_
          refine tk 8 hS ?_
          refine rdy [9] (csy (fun K hK => ?_) AllReadyH.nil)
          go_simp
          refine (less_b (h q) (h q0) _).mono ?_
          rintro e w9 ⟨rfl, hb⟩
          have hsz0 := hid (show Wd.heap.size ≤ w9.heap.size from hb.size)
          replace HR := hid (HR.out.step hb); replace HG := hid (HG.out.step hb); replace HBX := hid (below_then HBX.out hb)
          clear hb
          go_wp2_with fail
          clear hS
          refine ky hK ⟨(HR.out.cell q HQN.out.1), (HR.out.cell q0 HQN.out.2.1)⟩ fun hS => ?_
          clear hK K
          refine tk 10 hS ?_
          refine wpAnyH_done (by kernel_rfl) ?_ _
          refine NoPanic.normal ?_
          clear hS
          by_cases hlt : h q < h q0
          rotate_left
          ·skip
           have hl : decide (h q < h q0) = false := decide_eq_false hlt
           rw [hl]
           clear hl hlt
           go_wp2_with fail
           refine ⟨⟨p, t + 1, h, rfl, rfl, HP.out.1, HP.out.2, HT.out, HR.out, HS.out, HO.out, HG.out⟩, ?_⟩
           have h1 : intOf (.int .i64 ((t : Int) + 1)) = (t : Int) + 1 := rfl
           have h2 : intOf (.int .i64 (t : Int)) = (t : Int) := rfl
           have := HT.out
           rw [h1, h2]; omega
          have hl : decide (h q < h q0) = true := decide_eq_true hlt
          rw [hl]
          clear hl hlt
          go_upto_region 23 with fail
          have hf1 := HR.out.free (q) (HQN.out.1); have hf2 := HR.out.free (q0) (HQN.out.2.1); have hc1 := HR.out.cell (q) (HQN.out.1); have hc2 := HR.out.cell (q0) (HQN.out.2.1); have hc3 := HR.out.mid (i := q) (j := q0) (HQN.out.1) (HQN.out.2.1)
          show Code.wp _ _ _ _ _
          go_region
          clear hf1 hf2 hc1 hc2 hc3
          have bx := (Below.refl ((w9.setCell ⟨b, q, none⟩ (.int .u64 (h q0))).setCell ⟨b, q0, none⟩ (.int .u64 (h q))).heap.size ((w9.setCell ⟨b, q, none⟩ (.int .u64 (h q0))).setCell ⟨b, q0, none⟩ (.int .u64 (h q)))).drew
          replace HR := hid ((HR.out.swap (i := q) (j := q0) (HQN.out.1) (HQN.out.2.1)).step bx); replace HG := hid (((HG.out.sc (b := b) (o := q) rfl (.int .u64 (h (q0)))).sc (b := b) (o := q0) rfl (.int .u64 (h (q)))).bl bx)
          clear bx
          generalize ((w9.setCell ⟨b, q, none⟩ (.int .u64 (h q0))).setCell ⟨b, q0, none⟩ (.int .u64 (h q))).drew = W6 at *
          go_wp2_with fail
          refine ⟨⟨q + 1, swp h q q0, rfl, by have := HQ.out; omega, HQZ.out, HR.out, HS.out.step (by have := HXN.out; have := HP0.out; have := HQ.out; omega) HQZ.out (by have := HXN.out; have := HP0.out; have := HQN.out; omega) (by have := HQZ.out; have := HQ0.out; omega), HO.out.same (fun k hk => swp_o _ (by have := HQ.out; omega) (by have := HQN.out; omega)), HG.out⟩, ?_⟩
          have h1 : intOf (.int .i64 ((q : Int) + 1)) = (q : Int) + 1 := rfl
          have h2 : intOf (.int .i64 (q : Int)) = (q : Int) := rfl
          have := HQZ.out
          rw [h1, h2]; omega
end Go.Proofs.YtfipdoofgbjbjaaGreat

/- slices.choosePivotOrdered at words. No condition but sizes. -/
namespace Go.Proofs.YtfipdoofgbjbjaaGreat
open Go.RowKit
attribute [local go_sem] Oper.semAt_some
theorem RwS.keptP {w w' : World} {b n : Nat} {f : Nat → Int} {p : Nat → Prop} (h : RwS w b n f) (k : GrownP p w w') (hp : ¬ p b) : RwS w' b n f :=
  ⟨fun i hi => by
    have h0 := h.cell i hi
    have e := k.block b (cell_lt' h0) hp
    unfold World.cell? at h0 ⊢; rw [e]; exact h0, fun i hi => by
    have h0 := h.free i hi
    have e := k.block b (cell_lt' (h.cell i hi)) hp
    unfold World.frozen? at h0 ⊢; rw [e]; exact h0⟩
/-- what order2 hands back -/
def O2P (w : World) (b n s : Nat) (f : Nat → Int) (i j : Nat) (x : Ending) (w' : World) : Prop :=
  ∃ (p q : Nat) (v : Int), x = .returned (.tuple #[.int .i64 p, .int .i64 q]) ∧ (p = i ∧ q = j ∨ p = j ∧ q = i) ∧ Blk w' s 3 #[.int .i64 v] ∧ RwS w' b n f ∧ GrownP (fun i => i = s) w w'
/-- what median hands back -/
def MdP (w : World) (b n s : Nat) (f : Nat → Int) (P : Nat → Prop) (x : Ending) (w' : World) : Prop :=
  ∃ (p : Nat) (v : Int), x = .returned (.int .i64 p) ∧ P p ∧ Blk w' s 3 #[.int .i64 v] ∧ RwS w' b n f ∧ GrownP (fun i => i = s) w w'
set_option maxRecDepth 100000 in
theorem sorder2_any (b n c0 s i j : Nat) (v : Int) (f : Nat → Int) (w : World) (h : RwS w b n f) (hs : Blk w s 3 #[.int .i64 v]) (hb : s ≠ b) (hi : i < n) (hj : j < n) :
    Calls Tryz.prog 150 #[.slice (some ⟨b, 0, none⟩) n c0, .int .i64 i, .int .i64 j, .pointer (some ⟨s, 0, none⟩)] w (O2P w b n s f i j) := by
  have HR := hid h; have PS := hid hs; have HN := hid (show i < n ∧ j < n ∧ s ≠ b from ⟨hi, hj, hb⟩); have HG := hid (GrownP.refl (fun i => i = s) w)
  have hi1 : (i : Int) < (n : Int) := by omega
  have hi2 : (j : Int) < (n : Int) := by omega
  clear h hs hi hj hb
  go_enter Tryz.func150, Tryz.ntmps150
  go_upto_region 1 with fail
  have HBX := hid (Below.refl w.heap.size w)
  have bx := (Below.refl w.heap.size w).drew
  replace HR := hid (HR.out.step bx); replace HG := hid (HG.out.step bx); replace PS := hid (PS.out.step bx); replace HBX := hid (below_then HBX.out bx)
  clear bx
  have hszd := hid (show w.drew.heap.size = w.heap.size from rfl)
  refine wp_region_noPanic ?_
  refine wp_region_held_drew (S := (fun W' : World => W'.cell? ⟨b, i, none⟩ = some (.int .u64 (f i)) ∧ W'.cell? ⟨b, j, none⟩ = some (.int .u64 (f j)))) (by kernel_rfl) ⟨(HR.out.cell i HN.out.1), (HR.out.cell j HN.out.2.1)⟩ (fun hS => ?_)
  generalize w.drew = Wd at *
  refine tk 0 hS ?_
  refine tk 1 hS ?_
  refine tk 2 hS ?_
  refine tk 3 hS ?_
  refine tk 4 hS ?_
  refine tk 5 hS ?_
  refine tk 6 hS ?_
  refine tk 7 hS ?_
  refine rdy [8] (csy (fun K hK => ?_) AllReadyH.nil)
  go_simp
  refine (less_b (f j) (f i) _).mono ?_
  rintro e w8 ⟨rfl, hb⟩
  have hsz0 := hid (show Wd.heap.size ≤ w8.heap.size from hb.size)
  replace HR := hid (HR.out.step hb); replace HG := hid (HG.out.step hb); replace PS := hid (PS.out.step hb); replace HBX := hid (below_then HBX.out hb)
  clear hb
  go_wp2_with fail
  clear hS
  refine ky hK ⟨(HR.out.cell i HN.out.1), (HR.out.cell j HN.out.2.1)⟩ fun hS => ?_
  clear hK K
  refine wpAnyH_done (by kernel_rfl) ?_ _
  refine NoPanic.normal ?_
  clear hS
  by_cases hlt : f j < f i
  ·skip
   have hl : decide (f j < f i) = true := decide_eq_true hlt
   rw [hl]
   clear hl hlt
   obtain ⟨y0, yf⟩ := PS.out.cells1
   go_upto_region 3 with fail
   clear y0 yf
   obtain ⟨v2, hv2⟩ : ∃ v2, v2 = wrap64 (v + 1) := ⟨_, rfl⟩
   rw [← hv2]
   clear hv2
   have hbk0 : Blk (w8.setCell ⟨s, 0, none⟩ (.int .i64 v2)) (s) 3 #[.int .i64 v2] := PS.out.setCell 0 (.int .i64 v2)
   have hgr : w8.grownBy (w8.setCell ⟨s, 0, none⟩ (.int .i64 v2)) (some (s)) := (grown_set (World.grownBy.refl w8 (some (s))) 0 (.int .i64 v2))
   replace PS := hid hbk0
   clear hbk0
   generalize w8.setCell ⟨s, 0, none⟩ (.int .i64 v2) = W8 at *
   replace HR := hid (HR.out.keptP (p := fun i => i = s) (GrownP.ofGrown hgr rfl) (fun e => HN.out.2.2 e.symm)); replace HG := hid (HG.out.trans (GrownP.ofGrown hgr rfl))
   clear hgr
   go_wp2_with fail
   refine bodyPost_ret (v := .tuple #[.int .i64 j, .int .i64 i]) (by simp [results, Tryz.results150, go_sem]) rfl ⟨j, i, v2, rfl, .inr ⟨rfl, rfl⟩, PS.out, HR.out, HG.out⟩
  have hl : decide (f j < f i) = false := decide_eq_false hlt
  rw [hl]
  clear hl hlt
  go_wp2_with fail
  refine bodyPost_ret (v := .tuple #[.int .i64 i, .int .i64 j]) (by simp [results, Tryz.results150, go_sem]) rfl ⟨i, j, v, rfl, .inl ⟨rfl, rfl⟩, PS.out, HR.out, HG.out⟩
set_option maxRecDepth 100000 in
theorem smedian_any (b n c0 s i j k : Nat) (v : Int) (f : Nat → Int) (w : World) (h : RwS w b n f) (hs : Blk w s 3 #[.int .i64 v]) (hb : s ≠ b) (hi : i < n) (hj : j < n) (hk : k < n) :
    Calls Tryz.prog 137 #[.slice (some ⟨b, 0, none⟩) n c0, .int .i64 i, .int .i64 j, .int .i64 k, .pointer (some ⟨s, 0, none⟩)] w (MdP w b n s f (fun p => p = i ∨ p = j ∨ p = k)) := by
  have HR := hid h; have PS := hid hs; have HN := hid (show i < n ∧ j < n ∧ k < n ∧ s ≠ b from ⟨hi, hj, hk, hb⟩)
  clear h hs hi hj hk hb
  go_enter Tryz.func137, Tryz.ntmps137
  go_wp2_with fail
  refine (sorder2_any b n c0 s i j v f w HR.out PS.out HN.out.2.2.2 HN.out.1 HN.out.2.1).mono ?_
  rintro e w1 ⟨p1, q1, v1, rfl, ho, hs, hr, hg⟩
  have HO1 := hid ho; replace PS := hid hs; replace HR := hid hr; have HG := hid hg
  clear ho hs hr hg
  go_wp2_with fail
  refine (sorder2_any b n c0 s q1 k v1 f w1 HR.out PS.out HN.out.2.2.2 (by have := HO1.out; have := HN.out; omega) HN.out.2.2.1).mono ?_
  rintro e w2 ⟨p2, q2, v2, rfl, ho, hs, hr, hg⟩
  have HO2 := hid ho; replace PS := hid hs; replace HR := hid hr; replace HG := hid (HG.out.trans hg)
  clear ho hs hr hg
  go_wp2_with fail
  refine (sorder2_any b n c0 s p1 p2 v2 f w2 HR.out PS.out HN.out.2.2.2 (by have := HO1.out; have := HN.out; omega) (by have := HO1.out; have := HO2.out; have := HN.out; omega)).mono ?_
  rintro e w3 ⟨p3, q3, v3, rfl, ho, hs, hr, hg⟩
  have HO3 := hid ho; replace PS := hid hs; replace HR := hid hr; replace HG := hid (HG.out.trans hg)
  clear ho hs hr hg
  go_wp2_with fail
  refine bodyPost_ret (v := .int .i64 q3) (by simp [results, Tryz.results137, go_sem]) rfl ⟨q3, v3, rfl, by have := HO1.out; have := HO2.out; have := HO3.out; omega, PS.out, HR.out, HG.out⟩
set_option maxRecDepth 100000 in
theorem smedadj_any (b n c0 s i : Nat) (v : Int) (f : Nat → Int) (w : World) (h : RwS w b n f) (hs : Blk w s 3 #[.int .i64 v]) (hb : s ≠ b) (h0 : 0 < i) (hi : i + 1 < n) (hn : n ≤ 1000000) :
    Calls Tryz.prog 136 #[.slice (some ⟨b, 0, none⟩) n c0, .int .i64 i, .pointer (some ⟨s, 0, none⟩)] w (MdP w b n s f (fun p => i ≤ p + 1 ∧ p ≤ i + 1)) := by
  have HR := hid h; have PS := hid hs
  obtain ⟨i0, hi0⟩ : ∃ i0, i = i0 + 1 := ⟨i - 1, by omega⟩
  obtain ⟨i1, hi1⟩ : ∃ i1, i1 = i + 1 := ⟨_, rfl⟩
  have HN := hid (show i = i0 + 1 ∧ i1 = i + 1 ∧ i + 1 < n ∧ s ≠ b from ⟨hi0, hi1, hi, hb⟩)
  have hw1 : IntKind.i64.wrap ((i : Int) - 1) = (i0 : Int) := by rw [IntKind.wrap_i64]; omega
  have hw2 : IntKind.i64.wrap ((i : Int) + 1) = (i1 : Int) := by rw [IntKind.wrap_i64]; omega
  clear h hs hi h0 hb hn hi0 hi1
  go_enter Tryz.func136, Tryz.ntmps136
  go_wp2_with fail
  refine (smedian_any b n c0 s i0 i i1 v f w HR.out PS.out HN.out.2.2.2 (by have := HN.out; omega) (by have := HN.out; omega) (by have := HN.out; omega)).mono ?_
  rintro e w1 ⟨p, v1, rfl, ho, hs, hr, hg⟩
  have HO := hid ho; replace PS := hid hs; replace HR := hid hr; have HG := hid hg
  clear ho hs hr hg
  go_wp2_with fail
  refine bodyPost_ret (v := .int .i64 p) (by simp [results, Tryz.results136, go_sem]) rfl ⟨p, v1, rfl, by have := HO.out; have := HN.out; omega, PS.out, HR.out, HG.out⟩
/-- what choosePivot hands back -/
def CpP (w : World) (b n a z : Nat) (f : Nat → Int) (x : Ending) (w' : World) : Prop :=
  ∃ (p : Nat) (h : Int), x = .returned (.tuple #[.int .i64 p, .int .i64 h]) ∧ a ≤ p ∧ p < z ∧ RwS w' b n f ∧ Below w.heap.size w w'
set_option maxRecDepth 2000 in
set_option maxHeartbeats 2000000 in
theorem spivot_any (b n c0 a z : Nat) (f : Nat → Int) (w : World) (h : RwS w b n f) (ha : a + 8 ≤ z) (hz : z ≤ n) (hn : n ≤ 1000000) :
    Calls Tryz.prog 106 #[.slice (some ⟨b, 0, none⟩) n c0, .int .i64 a, .int .i64 z] w (CpP w b n a z f) := by
  have HR0 := hid h
  obtain ⟨m, hm⟩ : ∃ m, m = z - a := ⟨_, rfl⟩
  obtain ⟨q, hq⟩ : ∃ q, q = m / 4 := ⟨_, rfl⟩
  have hmq : 4 * q ≤ m ∧ m < 4 * q + 4 ∧ a + m = z ∧ 2 ≤ q := by omega
  have hw2 : wrap64 ((m : Int) / 4) = (q : Int) := by unfold wrap64; omega
  clear hm hq
  obtain ⟨i, hi⟩ : ∃ i, i = a + q := ⟨_, rfl⟩
  obtain ⟨q2, hq2⟩ : ∃ q2, q2 = q * 2 := ⟨_, rfl⟩
  obtain ⟨q3, hq3⟩ : ∃ q3, q3 = q * 3 := ⟨_, rfl⟩
  obtain ⟨j, hj⟩ : ∃ j, j = a + q2 := ⟨_, rfl⟩
  obtain ⟨k, hk⟩ : ∃ k, k = a + q3 := ⟨_, rfl⟩
  have HH := hid (show z ≤ n ∧ n ≤ 1000000 ∧ a + 2 ≤ i ∧ i + 2 ≤ z ∧ a + 2 ≤ j ∧ j + 2 ≤ z ∧ a + 2 ≤ k ∧ k + 2 ≤ z ∧ a < z from ⟨hz, hn, by omega, by omega, by omega, by omega, by omega, by omega, by omega⟩)
  have hw1 : IntKind.i64.wrap ((z : Int) - (a : Int)) = (m : Int) := by rw [IntKind.wrap_i64]; omega
  have hw2c : IntKind.i64.wrap (q : Int) = (q : Int) := by rw [IntKind.wrap_i64]; omega
  have hw3 : IntKind.i64.wrap ((q : Int) * 2) = (q2 : Int) := by rw [IntKind.wrap_i64]; omega
  have hw4 : IntKind.i64.wrap ((q : Int) * 3) = (q3 : Int) := by rw [IntKind.wrap_i64]; omega
  have hw5 : IntKind.i64.wrap ((a : Int) + (q : Int)) = (i : Int) := by rw [IntKind.wrap_i64]; omega
  have hw6 : IntKind.i64.wrap ((a : Int) + (q2 : Int)) = (j : Int) := by rw [IntKind.wrap_i64]; omega
  have hw7 : IntKind.i64.wrap ((a : Int) + (q3 : Int)) = (k : Int) := by rw [IntKind.wrap_i64]; omega
  have hd8 : (8 : Int) ≤ (m : Int) := by omega
  have HB := hid (Below.refl w.heap.size w); have HRb := hid (cell_lt' (h.cell a (by omega)))
  clear h ha hz hn hmq hi hq2 hq3 hj hk
  go_enter Tryz.func106, Tryz.ntmps106
  go_upto_region 3 with fail
  have PS := hid (Blk.new w 3 #[.int .i64 0]); have bx := below_box w (.cells #[.int .i64 0] 3)
  have HR := hid (HR0.out.step bx); replace HB := hid (below_then HB.out bx)
  have HZ := hid (show (w.alloc (.cells #[.int .i64 0] 3)).heap.size = w.heap.size + 1 by simp)
  clear bx HR0
  generalize w.alloc (.cells #[.int .i64 0] 3) = W1 at *
  have HSB := hid (show w.heap.size ≠ b by have := HRb.out; omega)
  have HG := hid (GrownP.refl (fun i => i = w.heap.size) W1)
  go_upto_region 7 with fail
  clear hw1 hw2 hw2c hw3 hw4 hw5 hw6 hw7 hd8
  by_cases h50 : 50 ≤ m
  rotate_left
  ·skip
   have hd : ¬ ((50 : Int) ≤ (m : Int)) := by omega
   clear h50
   go_wp2_with fail
   refine (smedian_any b n c0 w.heap.size i j k _ f W1 HR.out PS.out HSB.out (by have := HH.out; omega) (by have := HH.out; omega) (by have := HH.out; omega)).mono ?_
   rintro e w5 ⟨p, v5, rfl, ho, hs, hr, hg⟩
   have HO := hid ho; replace PS := hid hs; replace HR := hid hr; replace HG := hid (HG.out.trans hg)
   clear ho hs hr hg
   have HPB := hid (show a ≤ p ∧ p < z by have := HO.out; have := HH.out; omega)
   have HBB := hid (GrownP.below HB.out HG.out (fun i hi => by rw [hi]; exact Nat.le_refl _) (by have := HZ.out; omega))
   obtain ⟨y0, yf⟩ := PS.out.cells1
   by_cases hc1 : v5 = 0
   ·skip
    subst hc1
    go_wp2_with fail
    refine bodyPost_ret (v := .tuple #[.int .i64 p, .int .i64 1]) (by simp [results, Tryz.results106, go_sem]) rfl ⟨p, 1, rfl, HPB.out.1, HPB.out.2, HR.out, HBB.out⟩
   by_cases hc2 : v5 = 12
   ·skip
    subst hc2
    clear hc1
    go_wp2_with fail
    refine bodyPost_ret (v := .tuple #[.int .i64 p, .int .i64 2]) (by simp [results, Tryz.results106, go_sem]) rfl ⟨p, 2, rfl, HPB.out.1, HPB.out.2, HR.out, HBB.out⟩
   have hb1 : (v5 == 0) = false := by simpa using hc1
   have hb2 : (v5 == 12) = false := by simpa using hc2
   go_wp2_with fail
   refine bodyPost_ret (v := .tuple #[.int .i64 p, .int .i64 0]) (by simp [results, Tryz.results106, go_sem]) rfl ⟨p, 0, rfl, HPB.out.1, HPB.out.2, HR.out, HBB.out⟩
  have hd : (50 : Int) ≤ (m : Int) := by omega
  clear h50
  go_wp2_with fail
  refine (smedadj_any b n c0 w.heap.size i _ f W1 HR.out PS.out HSB.out (by have := HH.out; omega) (by have := HH.out; omega) HH.out.2.1).mono ?_
  rintro e w2 ⟨i9, v2, rfl, ho, hs, hr, hg⟩
  have HO0 := hid ho; replace PS := hid hs; replace HR := hid hr; replace HG := hid (HG.out.trans hg)
  clear ho hs hr hg
  go_wp2_with fail
  refine (smedadj_any b n c0 w.heap.size j _ f w2 HR.out PS.out HSB.out (by have := HH.out; omega) (by have := HH.out; omega) HH.out.2.1).mono ?_
  rintro e w3 ⟨j9, v3, rfl, ho, hs, hr, hg⟩
  have HO1 := hid ho; replace PS := hid hs; replace HR := hid hr; replace HG := hid (HG.out.trans hg)
  clear ho hs hr hg
  go_wp2_with fail
  refine (smedadj_any b n c0 w.heap.size k _ f w3 HR.out PS.out HSB.out (by have := HH.out; omega) (by have := HH.out; omega) HH.out.2.1).mono ?_
  rintro e w4 ⟨k9, v4, rfl, ho, hs, hr, hg⟩
  have HO2 := hid ho; replace PS := hid hs; replace HR := hid hr; replace HG := hid (HG.out.trans hg)
  clear ho hs hr hg
  replace HH := hid (show z ≤ n ∧ n ≤ 1000000 ∧ a < i9 ∧ i9 < z ∧ a < j9 ∧ j9 < z ∧ a < k9 ∧ k9 < z by have := HH.out; have := HO0.out; have := HO1.out; have := HO2.out; omega)
  go_wp2_with fail
  refine (smedian_any b n c0 w.heap.size i9 j9 k9 _ f w4 HR.out PS.out HSB.out (by have := HH.out; omega) (by have := HH.out; omega) (by have := HH.out; omega)).mono ?_
  rintro e w5 ⟨p, v5, rfl, ho, hs, hr, hg⟩
  have HO := hid ho; replace PS := hid hs; replace HR := hid hr; replace HG := hid (HG.out.trans hg)
  clear ho hs hr hg
  have HPB := hid (show a ≤ p ∧ p < z by have := HO.out; have := HH.out; omega)
  have HBB := hid (GrownP.below HB.out HG.out (fun i hi => by rw [hi]; exact Nat.le_refl _) (by have := HZ.out; omega))
  obtain ⟨y0, yf⟩ := PS.out.cells1
  by_cases hc1 : v5 = 0
  ·skip
   subst hc1
   go_wp2_with fail
   refine bodyPost_ret (v := .tuple #[.int .i64 p, .int .i64 1]) (by simp [results, Tryz.results106, go_sem]) rfl ⟨p, 1, rfl, HPB.out.1, HPB.out.2, HR.out, HBB.out⟩
  by_cases hc2 : v5 = 12
  ·skip
   subst hc2
   clear hc1
   go_wp2_with fail
   refine bodyPost_ret (v := .tuple #[.int .i64 p, .int .i64 2]) (by simp [results, Tryz.results106, go_sem]) rfl ⟨p, 2, rfl, HPB.out.1, HPB.out.2, HR.out, HBB.out⟩
  have hb1 : (v5 == 0) = false := by simpa using hc1
  have hb2 : (v5 == 12) = false := by simpa using hc2
  go_wp2_with fail
  refine bodyPost_ret (v := .tuple #[.int .i64 p, .int .i64 0]) (by simp [results, Tryz.results106, go_sem]) rfl ⟨p, 0, rfl, HPB.out.1, HPB.out.2, HR.out, HBB.out⟩
end Go.Proofs.YtfipdoofgbjbjaaGreat

/- slices.breakPatternsOrdered at words. No condition but sizes. -/
namespace Go.Proofs.YtfipdoofgbjbjaaGreat
open Go.RowKit
attribute [local go_sem] Oper.semAt_some
def lenB (A : ByteArray) : Bool := (List.range A.size).all fun i => decide (1 ≤ i → i < 2 ^ (A[i]!).toNat ∧ 2 ^ (A[i]!).toNat ≤ 2 * i ∧ (A[i]!).toNat ≤ 8)
theorem len_fin (A : ByteArray) (x : Nat) (h : x < A.size) (hA : lenB A = true) (h1 : 1 ≤ x) : ∃ L : Nat, Ending.returned (Value.int IntKind.i64 (wrap64 (wrap64 ((A[x].toNat : Nat) : Int)))) = Ending.returned (.int .i64 L) ∧ x < 2 ^ L ∧ 2 ^ L ≤ 2 * x ∧ L ≤ 8 := by
  unfold lenB at hA
  have h2 := of_decide_eq_true (List.all_eq_true.1 hA x (List.mem_range.2 h)) h1
  rw [getElem!_pos A x h] at h2
  have e : ∀ t : Nat, t ≤ 8 → wrap64 (wrap64 (t : Int)) = (t : Int) := fun t ht => by unfold wrap64; omega
  exact ⟨_, by rw [e _ h2.2.2], h2⟩
set_option maxRecDepth 100000 in
theorem len64_any (x : Nat) (w : World) (h1 : 1 ≤ x) (h2 : x < 256) : Calls Tryz.prog 113 #[.int .u64 x] w fun e w' => (∃ L : Nat, e = .returned (.int .i64 L) ∧ x < 2 ^ L ∧ 2 ^ L ≤ 2 * x ∧ L ≤ 8) ∧ w' = w := by
  have HX := hid (And.intro h1 h2)
  have d1 : ¬ ((4294967296 : Int) ≤ (x : Int)) := by omega
  have d2 : ¬ ((65536 : Int) ≤ (x : Int)) := by omega
  have d3 : ¬ ((256 : Int) ≤ (x : Int)) := by omega
  clear h1 h2
  go_enter Tryz.func113, Tryz.ntmps113
  go_wp2_with fail
  go_ret
  exact ⟨len_fin _ x _ (by kernel_rfl) HX.out.1, rfl⟩
set_option maxRecDepth 100000 in
theorem len_any (x : Nat) (w : World) (h1 : 1 ≤ x) (h2 : x < 256) : Calls Tryz.prog 67 #[.int .u64 x] w fun e w' => (∃ L : Nat, e = .returned (.int .i64 L) ∧ x < 2 ^ L ∧ 2 ^ L ≤ 2 * x ∧ L ≤ 8) ∧ w' = w := by
  go_enter Tryz.func67, Tryz.ntmps67
  go_wp2_with fail
  refine (len64_any x w h1 h2).mono ?_
  rintro e w1 ⟨⟨L, rfl, hL⟩, rfl⟩
  go_wp2_with fail
  go_ret
  exact ⟨⟨L, rfl, hL⟩, rfl⟩
set_option maxRecDepth 100000 in
theorem npow_any (x : Nat) (w : World) (h1 : 1 ≤ x) (h2 : x < 256) : Calls Tryz.prog 134 #[.int .i64 x] w fun e w' => (∃ L : Nat, e = .returned (.int .u64 ((2 ^ L : Nat) : Int)) ∧ x < 2 ^ L ∧ 2 ^ L ≤ 2 * x ∧ L ≤ 8) ∧ w' = w := by
  have hw1 : IntKind.u64.wrap (x : Int) = (x : Int) := by rw [IntKind.wrap_u64]; omega
  have HX := hid (And.intro h1 h2)
  clear h1 h2
  go_enter Tryz.func134, Tryz.ntmps134
  go_wp2_with fail
  refine (len_any x w HX.out.1 HX.out.2).mono ?_
  rintro e w1 ⟨⟨L, rfl, hL⟩, rfl⟩
  have HLL := hid hL
  have hL8 : L ≤ 8 := hL.2.2
  clear hL
  go_wp2_with fail
  have e : IntKind.u64.wrap ((2 : Int) ^ L) = ((2 ^ L : Nat) : Int) := by
    have h1 : ((2 ^ L : Nat) : Int) = (2 : Int) ^ L := by rw [Int.natCast_pow]; rfl
    rw [← h1, IntKind.wrap_u64]
    have := HLL.out; have := HX.out; omega
  go_ret
  exact ⟨⟨L, by rw [e]; rfl, HLL.out⟩, rfl⟩
theorem xor_fin (V : Nat) (y : Int) (hV : V < 18446744073709551616) (h0 : 0 ≤ y) (h1 : y < 18446744073709551616) : ∃ U : Nat, bits .xor .u64 (V : Int) y = (U : Int) ∧ U < 18446744073709551616 := by
  obtain ⟨Y, rfl⟩ := Int.eq_ofNat_of_zero_le h0
  exact ⟨V ^^^ Y, bits_xor_u64_nat V Y hV (by omega), Nat.xor_lt_two_pow (n := 64) hV (by omega)⟩
/-- what Next hands back -/
def NxP (w : World) (r : Nat) (x : Ending) (w' : World) : Prop :=
  ∃ v : Nat, x = .returned (.int .u64 v) ∧ v < 18446744073709551616 ∧ Blk w' r 169 #[.int .u64 v] ∧ GrownP (fun i => i = r) w w'
set_option maxRecDepth 100000 in
set_option maxHeartbeats 1000000 in
theorem snext_any (r V : Nat) (w : World) (h : Blk w r 169 #[.int .u64 V]) (h2 : V < 18446744073709551616) : Calls Tryz.prog 135 #[.pointer (some ⟨r, 0, none⟩)] w (NxP w r) := by
  have PR := hid h; have HV := hid h2; have HG := hid (GrownP.refl (fun i => i = r) w)
  clear h h2
  go_enter Tryz.func135, Tryz.ntmps135
  go_upto_region 1 with fail
  obtain ⟨y0, yf⟩ := PR.out.cells1
  go_region
  clear y0 yf
  obtain ⟨V1, hv, hlt⟩ := xor_fin V (IntKind.u64.wrap ((V : Int) * 8192)) HV.out (by (try rw [IntKind.wrap_u64]); have := HV.out; omega) (by (try rw [IntKind.wrap_u64]); have := HV.out; omega)
  rw [hv]
  replace HV := hid hlt
  clear hv hlt
  have bx := (Below.refl (w.setCell ⟨r, 0, none⟩ (.int .u64 (V1 : Int))).heap.size (w.setCell ⟨r, 0, none⟩ (.int .u64 (V1 : Int)))).drew
  replace PR := hid ((PR.out.setCell 0 (.int .u64 (V1 : Int))).step bx); replace HG := hid ((HG.out.sc (b := r) (o := 0) rfl (.int .u64 (V1 : Int))).bl bx)
  clear bx
  generalize (w.setCell ⟨r, 0, none⟩ (.int .u64 (V1 : Int))).drew = U0 at *
  go_upto_region 2 with fail
  obtain ⟨y0, yf⟩ := PR.out.cells1
  go_region
  clear y0 yf
  obtain ⟨V2, hv, hlt⟩ := xor_fin V1 ((V1 : Int) / 128) HV.out (by (try rw [IntKind.wrap_u64]); have := HV.out; omega) (by (try rw [IntKind.wrap_u64]); have := HV.out; omega)
  rw [hv]
  replace HV := hid hlt
  clear hv hlt
  have bx := (Below.refl (U0.setCell ⟨r, 0, none⟩ (.int .u64 (V2 : Int))).heap.size (U0.setCell ⟨r, 0, none⟩ (.int .u64 (V2 : Int)))).drew
  replace PR := hid ((PR.out.setCell 0 (.int .u64 (V2 : Int))).step bx); replace HG := hid ((HG.out.sc (b := r) (o := 0) rfl (.int .u64 (V2 : Int))).bl bx)
  clear bx
  generalize (U0.setCell ⟨r, 0, none⟩ (.int .u64 (V2 : Int))).drew = U1 at *
  go_upto_region 3 with fail
  obtain ⟨y0, yf⟩ := PR.out.cells1
  go_region
  clear y0 yf
  obtain ⟨V3, hv, hlt⟩ := xor_fin V2 (IntKind.u64.wrap ((V2 : Int) * 131072)) HV.out (by (try rw [IntKind.wrap_u64]); have := HV.out; omega) (by (try rw [IntKind.wrap_u64]); have := HV.out; omega)
  rw [hv]
  replace HV := hid hlt
  clear hv hlt
  have bx := (Below.refl (U1.setCell ⟨r, 0, none⟩ (.int .u64 (V3 : Int))).heap.size (U1.setCell ⟨r, 0, none⟩ (.int .u64 (V3 : Int)))).drew
  replace PR := hid ((PR.out.setCell 0 (.int .u64 (V3 : Int))).step bx); replace HG := hid ((HG.out.sc (b := r) (o := 0) rfl (.int .u64 (V3 : Int))).bl bx)
  clear bx
  generalize (U1.setCell ⟨r, 0, none⟩ (.int .u64 (V3 : Int))).drew = U2 at *
  obtain ⟨y0, yf⟩ := PR.out.cells1
  go_wp2_with fail
  clear y0 yf
  refine bodyPost_ret (v := .int .u64 (V3 : Int)) (by simp [results, Tryz.results135, go_sem]) rfl ⟨V3, rfl, HV.out, PR.out, HG.out⟩
set_option maxRecDepth 2000 in
set_option maxHeartbeats 4000000 in
theorem sbreak_any (b n c0 a z : Nat) (f : Nat → Int) (w : World) (h : RwS w b n f) (ha : a + 8 ≤ z) (hz : z ≤ n) (hn : n ≤ 250) :
    Calls Tryz.prog 105 #[.slice (some ⟨b, 0, none⟩) n c0, .int .i64 a, .int .i64 z] w (SoP w b n a z f (fun _ => True)) := by
  have HR0 := hid h
  obtain ⟨m, hm⟩ : ∃ m, m = z - a := ⟨_, rfl⟩
  obtain ⟨q, hq⟩ : ∃ q, q = m / 4 := ⟨_, rfl⟩
  have hmq : 4 * q ≤ m ∧ m < 4 * q + 4 ∧ a + m = z ∧ 2 ≤ q := by omega
  have hw2 : wrap64 ((m : Int) / 4) = (q : Int) := by unfold wrap64; omega
  clear hm hq
  obtain ⟨q2, hq2⟩ : ∃ q2, q2 = q * 2 := ⟨_, rfl⟩
  obtain ⟨B, hB⟩ : ∃ B, B = a + q2 := ⟨_, rfl⟩
  obtain ⟨B0, hB0⟩ : ∃ B0, B = B0 + 1 := ⟨B - 1, by omega⟩
  obtain ⟨B1, hB1⟩ : ∃ B1, B1 = B + 1 := ⟨_, rfl⟩
  have HH := hid (show a + m = z ∧ z ≤ n ∧ n ≤ 250 ∧ 8 ≤ m ∧ a ≤ B0 ∧ B1 < z ∧ B0 + 2 = B1 from ⟨hmq.2.2.1, hz, hn, by omega, by omega, by omega, by omega⟩)
  have hw1 : IntKind.i64.wrap ((z : Int) - (a : Int)) = (m : Int) := by rw [IntKind.wrap_i64]; omega
  have hw3 : IntKind.i64.wrap ((q : Int) * 2) = (q2 : Int) := by rw [IntKind.wrap_i64]; omega
  have hw4 : IntKind.i64.wrap ((a : Int) + (q2 : Int)) = (B : Int) := by rw [IntKind.wrap_i64]; omega
  have hw5 : IntKind.i64.wrap ((B : Int) - 1) = (B0 : Int) := by rw [IntKind.wrap_i64]; omega
  have hw6 : IntKind.i64.wrap ((B : Int) + 1) = (B1 : Int) := by rw [IntKind.wrap_i64]; omega
  have hw7 : IntKind.u64.wrap (m : Int) = (m : Int) := by rw [IntKind.wrap_u64]; omega
  have hd8 : (8 : Int) ≤ (m : Int) := by omega
  have HE := hid (And.intro hw2 (And.intro hw3 (And.intro hw4 hw6)))
  have HB := hid (Below.refl w.heap.size w); have HRb := hid (cell_lt' (h.cell a (by omega)))
  clear h ha hz hn hmq hq2 hB hB0 hB1
  go_enter Tryz.func105, Tryz.ntmps105
  go_wp2_with fail
  have PX := hid (Blk.new w 169 #[.int .u64 m]); have bx := below_box w (.cells #[.int .u64 m] 169)
  have HR := hid (HR0.out.step bx); replace HB := hid (below_then HB.out bx)
  have HG := hid (GrownP.ofBelow (p := fun i => i = b) bx)
  have HSZ := hid (show (w.alloc (.cells #[.int .u64 m] 169)).heap.size = w.heap.size + 1 by simp)
  clear bx HR0
  generalize w.alloc (.cells #[.int .u64 m] 169) = W1 at *
  refine (npow_any m W1 (by have := HH.out; omega) (by have := HH.out; omega)).mono ?_
  rintro e w1 ⟨⟨L, rfl, hL⟩, rfl⟩
  obtain ⟨M, hM⟩ : ∃ M, M = 2 ^ L := ⟨_, rfl⟩
  rw [← hM] at hL ⊢
  obtain ⟨M1, hM1⟩ : ∃ M1, M = M1 + 1 := ⟨M - 1, by omega⟩
  have HM := hid (show m < M ∧ M ≤ 2 * m ∧ M = M1 + 1 from ⟨hL.1, hL.2.1, hM1⟩)
  have HWM := hid (show IntKind.u64.wrap ((M : Int) - 1) = (M1 : Int) by have := HH.out; rw [IntKind.wrap_u64]; omega)
  clear hL hM hM1
  go_wp2_with fail
  clear hw1 hw2 hw3 hw4 hw5 hw6 hw7 hd8
  have HRN := hid (show w.heap.size ≠ b by have := HRb.out; omega)
  go_loopw [9] (fun i wr => ∃ (p V : Nat) (g : Nat → Int), i = .int .i64 p ∧ B0 ≤ p ∧ p ≤ B1 + 1 ∧ V < 18446744073709551616 ∧ Blk wr w.heap.size 169 #[.int .u64 V] ∧ RwS wr b n g ∧ Swp a z f g ∧ GrownP (fun i => i = b) w wr) (fun i _ => B1 + 2 - (intOf i).toNat)
  case atStart => exact ⟨B0, m, f, rfl, Nat.le_refl _, by have := HH.out; omega, by have := HH.out; omega, PX.out, HR.out, .refl, HG.out⟩
  case round =>
    obtain ⟨p, V, g, rfl, hp1, hp2, hv, hx, hr, hs, hg⟩ := hrel
    rename World => wr
    replace HR := hid hr; replace PX := hid hx; have HS := hid hs; replace HG := hid hg; have HP := hid (And.intro hp1 (And.intro hp2 hv))
    clear hp1 hp2 hv hx hr hs hg
    obtain ⟨hw2, hw3, hw4, hw6⟩ := HE.out
    by_cases hpb : p ≤ B1
    rotate_left
    ·skip
     have hd : ¬ ((p : Int) ≤ (B1 : Int)) := by omega
     go_wp2_with fail
     go_end0
     exact ⟨g, rfl, HR.out, HS.out, trivial, HG.out⟩
    have hd : (p : Int) ≤ (B1 : Int) := by omega
    have HPB := hid hpb
    go_wp2_with fail
    clear hw2 hw3 hw4 hw6 hd hpb
    refine (snext_any w.heap.size V wr PX.out HP.out.2.2).mono ?_
    rintro e w3 ⟨V2, rfl, hv, hx, hg⟩
    replace HR := hid (HR.out.keptP hg (fun e => HRN.out e.symm)); replace PX := hid hx
    have HG2 := hid (GrownP.thenB HG.out (GrownP.below (Below.refl w.heap.size wr) hg (fun i hi => by rw [hi]; exact Nat.le_refl _) HG.out.size) (Nat.le_refl _))
    have HV2 := hid hv
    clear hv hx hg
    obtain ⟨O, hO⟩ : ∃ O, O = V2 &&& M1 := ⟨_, rfl⟩
    have hand : bits .and .u64 (V2 : Int) (M1 : Int) = (O : Int) := by rw [bits_and_u64_nat V2 M1 HV2.out (by have := HM.out; have := HH.out; omega), hO]
    have HO := hid (show O ≤ M1 by rw [hO]; exact Nat.and_le_right)
    have hwM := HWM.out
    have hwO : IntKind.i64.wrap (O : Int) = (O : Int) := by have := HO.out; have := HM.out; have := HH.out; rw [IntKind.wrap_i64]; omega
    have hwp : IntKind.i64.wrap ((p : Int) + 1) = ((p + 1 : Nat) : Int) := by have := HPB.out; have := HH.out; rw [IntKind.wrap_i64]; omega
    have HPN := hid (show p < n ∧ a ≤ p ∧ p < z by have := HPB.out; have := HH.out; have := HP.out; omega)
    have hi1 : (p : Int) < (n : Int) := by have := HPN.out; omega
    clear hO
    by_cases hge : m ≤ O
    ·skip
     obtain ⟨O2, hO2⟩ : ∃ O2, O = m + O2 := ⟨O - m, by omega⟩
     have HOL := hid (show O2 < m by have := HO.out; have := HM.out; omega)
     have hd : (m : Int) ≤ (O : Int) := by omega
     have hwo : IntKind.i64.wrap ((O : Int) - (m : Int)) = (O2 : Int) := by have := HH.out; have := HOL.out; rw [IntKind.wrap_i64]; omega
     clear hO2 hge
     obtain ⟨x, hx⟩ : ∃ x, x = a + O2 := ⟨_, rfl⟩
     have HX := hid (show x = a + O2 ∧ x < n ∧ x < z by have := HOL.out; have := HH.out; omega)
     have hwx : IntKind.i64.wrap ((a : Int) + (O2 : Int)) = (x : Int) := by have := HOL.out; have := HH.out; rw [IntKind.wrap_i64]; omega
     have hi2 : (x : Int) < (n : Int) := by have := HX.out; omega
     clear hx
     go_upto_region 10 with fail
     replace HG := HG2
     have hf1 := HR.out.free (p) (HPN.out.1); have hf2 := HR.out.free (x) (HX.out.2.1); have hc1 := HR.out.cell (p) (HPN.out.1); have hc2 := HR.out.cell (x) (HX.out.2.1); have hc3 := HR.out.mid (i := p) (j := x) (HPN.out.1) (HX.out.2.1)
     show Code.wp _ _ _ _ _
     go_region
     clear hf1 hf2 hc1 hc2 hc3
     have bx := (Below.refl ((w3.setCell ⟨b, p, none⟩ (.int .u64 (g x))).setCell ⟨b, x, none⟩ (.int .u64 (g p))).heap.size ((w3.setCell ⟨b, p, none⟩ (.int .u64 (g x))).setCell ⟨b, x, none⟩ (.int .u64 (g p)))).drew
     replace PX := hid (((PX.out.far (p := ⟨b, p, none⟩) (fun e => HRN.out e) (.int .u64 (g (x)))).far (p := ⟨b, x, none⟩) (fun e => HRN.out e) (.int .u64 (g (p)))).step bx)
     replace HR := hid ((HR.out.swap (i := p) (j := x) (HPN.out.1) (HX.out.2.1)).step bx); replace HG := hid (((HG.out.sc (b := b) (o := p) rfl (.int .u64 (g (x)))).sc (b := b) (o := x) rfl (.int .u64 (g (p)))).bl bx)
     clear bx
     generalize ((w3.setCell ⟨b, p, none⟩ (.int .u64 (g x))).setCell ⟨b, x, none⟩ (.int .u64 (g p))).drew = W9 at *
     go_wp2_with fail
     refine ⟨⟨p + 1, V2, swp g p x, rfl, by have := HP.out; omega, by have := HPB.out; omega, HV2.out, PX.out, HR.out, HS.out.step HPN.out.2.1 HPN.out.2.2 (by have := HX.out; omega) HX.out.2.2, HG.out⟩, ?_⟩
     have h1 : intOf (.int .i64 ((p : Int) + 1)) = (p : Int) + 1 := rfl
     have h2 : intOf (.int .i64 (p : Int)) = (p : Int) := rfl
     have := HPB.out
     rw [h1, h2]; omega
    have HOL := hid (show O < m by omega)
    have hd : ¬ ((m : Int) ≤ (O : Int)) := by omega
    clear hge
    obtain ⟨x, hx⟩ : ∃ x, x = a + O := ⟨_, rfl⟩
    have HX := hid (show x = a + O ∧ x < n ∧ x < z by have := HOL.out; have := HH.out; omega)
    have hwx : IntKind.i64.wrap ((a : Int) + (O : Int)) = (x : Int) := by have := HOL.out; have := HH.out; rw [IntKind.wrap_i64]; omega
    have hi2 : (x : Int) < (n : Int) := by have := HX.out; omega
    clear hx
    go_upto_region 10 with fail
    replace HG := HG2
    have hf1 := HR.out.free (p) (HPN.out.1); have hf2 := HR.out.free (x) (HX.out.2.1); have hc1 := HR.out.cell (p) (HPN.out.1); have hc2 := HR.out.cell (x) (HX.out.2.1); have hc3 := HR.out.mid (i := p) (j := x) (HPN.out.1) (HX.out.2.1)
    show Code.wp _ _ _ _ _
    go_region
    clear hf1 hf2 hc1 hc2 hc3
    have bx := (Below.refl ((w3.setCell ⟨b, p, none⟩ (.int .u64 (g x))).setCell ⟨b, x, none⟩ (.int .u64 (g p))).heap.size ((w3.setCell ⟨b, p, none⟩ (.int .u64 (g x))).setCell ⟨b, x, none⟩ (.int .u64 (g p)))).drew
    replace PX := hid (((PX.out.far (p := ⟨b, p, none⟩) (fun e => HRN.out e) (.int .u64 (g (x)))).far (p := ⟨b, x, none⟩) (fun e => HRN.out e) (.int .u64 (g (p)))).step bx)
    replace HR := hid ((HR.out.swap (i := p) (j := x) (HPN.out.1) (HX.out.2.1)).step bx); replace HG := hid (((HG.out.sc (b := b) (o := p) rfl (.int .u64 (g (x)))).sc (b := b) (o := x) rfl (.int .u64 (g (p)))).bl bx)
    clear bx
    generalize ((w3.setCell ⟨b, p, none⟩ (.int .u64 (g x))).setCell ⟨b, x, none⟩ (.int .u64 (g p))).drew = W9 at *
    go_wp2_with fail
    refine ⟨⟨p + 1, V2, swp g p x, rfl, by have := HP.out; omega, by have := HPB.out; omega, HV2.out, PX.out, HR.out, HS.out.step HPN.out.2.1 HPN.out.2.2 (by have := HX.out; omega) HX.out.2.2, HG.out⟩, ?_⟩
    have h1 : intOf (.int .i64 ((p : Int) + 1)) = (p : Int) + 1 := rfl
    have h2 : intOf (.int .i64 (p : Int)) = (p : Int) := rfl
    have := HPB.out
    rw [h1, h2]; omega
end Go.Proofs.YtfipdoofgbjbjaaGreat
