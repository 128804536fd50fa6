/- Walks and plain laws for this claim, part 11. No condition but sizes. -/
import Derived.Test.YtfipdoofgbjbjaaGreatM9
import Derived.Test.YtfipdoofgbjbjaaGreatM10
import Derived.Test.YtfipdoofgbjbjaaGreatM8
import Derived.Test.YtfipdoofgbjbjaaGreatM4
import Derived.Deep.DeepCutAuto
import Derived.Deep.CutBlock
import Derived.Test.YtfipdoofgbjbjaaGreatM1
import Derived.Test.YtfipdoofgbjbjaaGreatM7
import Derived.Laws.IdiomArrays
/- slices.pdqsortOrdered, slices.Sort at words. No condition but sizes. -/
namespace Go.Proofs.YtfipdoofgbjbjaaGreat
open Go.RowKit
attribute [local go_sem] Oper.semAt_some
/-- all is in its place but what stands from p to y -/
def Gl (a z p y : Nat) (g : Nat → Int) : Prop := ∀ i j, a ≤ i → i < j → j < z → (i < p ∨ y ≤ j) → g i ≤ g j
theorem Gl.start (a z : Nat) (g : Nat → Int) : Gl a z a z g := fun i j h1 h2 h3 h4 => by omega
theorem Gl.swp {a z p y : Nat} {g g' : Nat → Int} (h : Gl a z p y g) (hs : Swp p y g g') (ha : a ≤ p) (hz : y ≤ z) : Gl a z p y g' := fun i j h1 h2 h3 h4 => by
  rcases h4 with h4 | h4
  · rw [hs.out (.inl h4)]
    by_cases hj : p ≤ j ∧ j < y
    · exact hs.all (P := fun v => g i ≤ v) (fun k k1 k2 => h i k h1 (by omega) (by omega) (.inl h4)) j hj.1 hj.2
    · rw [hs.out (k := j) (by omega)]; exact h i j h1 h2 h3 (.inl h4)
  · rw [hs.out (k := j) (.inr h4)]
    by_cases hi : p ≤ i ∧ i < y
    · exact hs.all (P := fun v => v ≤ g j) (fun k k1 k2 => h k j (by omega) (by omega) h3 (.inr h4)) i hi.1 hi.2
    · rw [hs.out (k := i) (by omega)]; exact h i j h1 h2 h3 (.inr h4)
theorem Gl.fin {a z p y : Nat} {g : Nat → Int} (h : Gl a z p y g) (ho : Srt p y g) : Srt a z g := fun i j h1 h2 h3 => by
  by_cases e : i < p ∨ y ≤ j
  · exact h i j h1 h2 h3 e
  · exact ho i j (by omega) h2 (by omega)
theorem Gl.left {a z p y m : Nat} {g : Nat → Int} (h : Gl a z p y g) (hm : ∀ i j, p ≤ i → i < m → i < j → j < y → g i ≤ g j) : Gl a z m y g := fun i j h1 h2 h3 h4 => by
  by_cases e : i < p ∨ y ≤ j
  · exact h i j h1 h2 h3 e
  · exact hm i j (by omega) (by omega) h2 (by omega)
theorem Gl.right {a z p y m : Nat} {g : Nat → Int} (h : Gl a z p y g) (hm : ∀ i j, p ≤ i → m ≤ j → i < j → j < y → g i ≤ g j) : Gl a z p m g := fun i j h1 h2 h3 h4 => by
  by_cases e : i < p ∨ y ≤ j
  · exact h i j h1 h2 h3 e
  · exact hm i j (by omega) (by omega) h2 (by omega)
/-- parted, and the left part sorted -/
theorem pa_left {p y m : Nat} {g1 g2 : Nat → Int} (h : Pa p y m g1) (hs : Swp p m g1 g2) (ho : Srt p m g2) : (∀ i j, p ≤ i → i < m + 1 → i < j → j < y → g2 i ≤ g2 j) ∧ LB (m + 1) y g2 := by
  have hm : g2 m = g1 m := hs.out (.inr (Nat.le_refl _))
  have hl : ∀ i, p ≤ i → i < m → g2 i ≤ g1 m := fun i h1 h2 => hs.all (P := fun v => v ≤ g1 m) h.2.2.1 i h1 h2
  have hr : ∀ j, m < j → j < y → g1 m ≤ g2 j := fun j h1 h2 => by rw [hs.out (.inr (by omega))]; exact h.2.2.2 j h1 h2
  refine ⟨fun i j h1 h2 h3 h4 => ?_, fun _ k h1 h2 => by rw [Nat.add_sub_cancel, hm]; exact hr k (by omega) h2⟩
  by_cases e : j < m
  · exact ho i j h1 h3 e
  · by_cases e2 : i = m
    · subst e2; rw [hm]; exact hr j h3 h4
    · by_cases e3 : j = m
      · subst e3; rw [hm]; exact hl i h1 (by omega)
      · exact Int.le_trans (hl i h1 (by omega)) (hr j (by omega) h4)
theorem pa_right {p y m : Nat} {g1 g2 : Nat → Int} (h : Pa p y m g1) (hs : Swp (m + 1) y g1 g2) (ho : Srt (m + 1) y g2) : ∀ i j, p ≤ i → m ≤ j → i < j → j < y → g2 i ≤ g2 j := by
  have hm : g2 m = g1 m := hs.out (.inl (Nat.lt_succ_self _))
  have hl : ∀ i, p ≤ i → i < m → g2 i ≤ g1 m := fun i h1 h2 => by rw [hs.out (.inl (by omega))]; exact h.2.2.1 i h1 h2
  have hr : ∀ j, m + 1 ≤ j → j < y → g1 m ≤ g2 j := fun j h1 h2 => hs.all (P := fun v => g1 m ≤ v) (fun k k1 k2 => h.2.2.2 k (by omega) k2) j h1 h2
  intro i j h1 h2 h3 h4
  by_cases e : m + 1 ≤ i
  · exact ho i j e h3 h4
  · by_cases e2 : i = m
    · subst e2; rw [hm]; exact hr j (by omega) h4
    · by_cases e3 : j = m
      · subst e3; rw [hm]; exact hl i h1 (by omega)
      · exact Int.le_trans (hl i h1 (by omega)) (hr j (by omega) h4)
theorem Swp.then_ {a z p y : Nat} {f g h : Nat → Int} (h1 : Swp a z f g) (h2 : Swp p y g h) (ha : a ≤ p) (hz : y ≤ z) : Swp a z f h := h1.trans (h2.mono ha hz)
set_option maxRecDepth 4000 in
set_option maxHeartbeats 8000000 in
theorem spdq_any (b n c0 : Nat) (hn : n ≤ 250) (d : Nat) : ∀ (a z : Nat) (lim : Int) (f : Nat → Int) (w : World), z - a = d → RwS w b n f → a ≤ z → z ≤ n → 0 ≤ lim → lim ≤ 1000000 → LB a z f →
    Calls Tryz.prog 66 #[.slice (some ⟨b, 0, none⟩) n c0, .int .i64 a, .int .i64 z, .int .i64 lim] w (SoP w b n a z f (Srt a z)) := by
  have HN := hid hn
  clear hn
  induction d using Nat.strongRecOn with
  | _ d ih =>
  intro a z lim f w hd hr ha hz hl0 hl1 hlb
  have HR := hid hr; have HH := hid (show a ≤ z ∧ z ≤ n ∧ z - a = d from ⟨ha, hz, hd⟩); have HL := hid (And.intro hl0 hl1); have HLB := hid hlb; have IH := hid ih
  clear ih hd hr ha hz hl0 hl1 hlb
  go_enter Tryz.func66, Tryz.ntmps66
  go_wp2_with fail
  go_loopw [1, 2, 3, 8, 9] (fun s1 s2 s3 s8 s9 wr => ∃ (p y : Nat) (l : Int) (b1 b2 : Bool) (g : Nat → Int), s1 = .int .i64 p ∧ s2 = .int .i64 y ∧ s3 = .int .i64 l ∧ s8 = .bool b1 ∧ s9 = .bool b2 ∧ (a ≤ p ∧ p ≤ y ∧ y ≤ z ∧ 0 ≤ l ∧ l ≤ 1000000) ∧ RwS wr b n g ∧ Swp a z f g ∧ LB p y g ∧ Gl a z p y g ∧ GrownP (fun i => i = b) w wr) (fun s1 s2 _ _ _ _ => (intOf s2 - intOf s1).toNat)
  case atStart => exact ⟨a, z, lim, true, true, f, rfl, rfl, rfl, rfl, rfl, ⟨Nat.le_refl _, HH.out.1, Nat.le_refl _, HL.out.1, HL.out.2⟩, HR.out, .refl, HLB.out, Gl.start _ _ _, .refl _ _⟩
  case round =>
    obtain ⟨p, y, l, b1, b2, g, rfl, rfl, rfl, rfl, rfl, hp, hr, hs, hlb, hgl, hg⟩ := hrel
    rename World => wr
    replace HR := hid hr; have HS := hid hs; replace HLB := hid hlb; have HGL := hid hgl; have HG := hid hg; have HP := hid hp
    clear hp hr hs hlb hgl hg HL
    obtain ⟨m, hm⟩ : ∃ m, m = y - p := ⟨_, rfl⟩
    have HM := hid (show p + m = y by have := HP.out; omega)
    have hw1 : IntKind.i64.wrap ((y : Int) - (p : Int)) = (m : Int) := by have := HP.out; have := HH.out; have := HN.out; rw [IntKind.wrap_i64]; omega
    clear hm
    by_cases h12 : m ≤ 12
    ·skip
     have hd : (m : Int) ≤ 12 := by omega
     go_wp2_with fail
     refine (sinsert_any b n c0 p y g wr HR.out HP.out.2.1 (by have := HP.out; have := HH.out; omega) (by have := HN.out; omega)).mono ?_
     rintro e w2 ⟨g2, rfl, hr, hs, ho, hg⟩
     have HF := hid (show SoP w b n a z f (Srt a z) (.returned (.tuple #[])) w2 from ⟨g2, rfl, hr, HS.out.then_ hs HP.out.1 HP.out.2.2.1, (HGL.out.swp hs HP.out.1 HP.out.2.2.1).fin ho, HG.out.trans hg⟩)
     clear hr hs ho hg
     go_wp2_with fail
     go_end0
     exact HF.out
    have hd : ¬ ((m : Int) ≤ 12) := by omega
    have HM2 := hid (show p + 13 ≤ y ∧ y ≤ n by have := HM.out; have := HP.out; have := HH.out; omega)
    by_cases hl0 : l = 0
    ·skip
     subst hl0
     go_wp2_with fail
     refine (sheap_any b n c0 p y g wr HR.out (by have := HM2.out; omega) HM2.out.2 (by have := HN.out; omega)).mono ?_
     rintro e w2 ⟨g2, rfl, hr, hs, ho, hg⟩
     have HF := hid (show SoP w b n a z f (Srt a z) (.returned (.tuple #[])) w2 from ⟨g2, rfl, hr, HS.out.then_ hs HP.out.1 HP.out.2.2.1, (HGL.out.swp hs HP.out.1 HP.out.2.2.1).fin ho, HG.out.trans hg⟩)
     clear hr hs ho hg
     go_wp2_with fail
     go_end0
     exact HF.out
    have hlb : (l == 0) = false := by simpa using hl0
    have hwl : IntKind.i64.wrap (l - 1) = l - 1 := by have := HP.out; rw [IntKind.wrap_i64]; omega
    have HL0 := hid hl0
    go_upto_if 35 with fail
    clear hw1 hd h12 hl0 hlb
    go_cut [3] (fun s3 wx => ∃ (l2 : Int) (g2 : Nat → Int), s3 = .int .i64 l2 ∧ (0 ≤ l2 ∧ l2 ≤ 1000000) ∧ RwS wx b n g2 ∧ Swp p y g g2 ∧ GrownP (fun i => i = b) w wx)
    case first =>
      rcases b1 with _ | _
      ·skip
       go_wp2_with fail
       refine (sbreak_any b n c0 p y g wr HR.out (by have := HM2.out; omega) HM2.out.2 HN.out).mono ?_
       rintro e w2 ⟨g2, rfl, hr, hs, _, hg⟩
       have HF := hid (show RwS w2 b n g2 ∧ Swp p y g g2 ∧ GrownP (fun i => i = b) w w2 from ⟨hr, hs, HG.out.trans hg⟩)
       clear hr hs hg
       go_wp2_with fail
       go_meet
       exact ⟨l - 1, g2, rfl, by have := HP.out; have := HL0.out; omega, HF.out⟩
      ·skip
       go_wp2_with fail
       go_meet
       exact ⟨l, g, rfl, HP.out.2.2.2, HR.out, .refl, HG.out⟩
    case rest =>
      obtain ⟨l2, g2, rfl, hl, hr, hs, hg⟩ := hcut
      rename World => w2
      replace HR := hid hr; have HS2 := hid hs; replace HG := hid hg; have HL := hid hl
      clear hl hr hs hg hwl
      go_wp2_with fail
      refine (spivot_any b n c0 p y g2 w2 HR.out (by have := HM2.out; omega) HM2.out.2 (by have := HN.out; omega)).mono ?_
      rintro e w3 ⟨pv, hh, rfl, hp1, hp2, hr, hb⟩
      replace HR := hid hr; replace HG := hid (HG.out.bl hb); have HPV := hid (And.intro hp1 hp2)
      clear hp1 hp2 hr hb
      go_upto_if 50 with fail
      obtain ⟨bh, hbh⟩ : ∃ bh, bh = (hh == (2 : Int)) := ⟨_, rfl⟩
      rw [← hbh]
      have HBH := hid hbh
      clear hbh
      go_cut [11, 12] (fun s11 s12 wx => ∃ (pv2 : Nat) (h2 : Int) (g3 : Nat → Int), s11 = .int .i64 pv2 ∧ s12 = .int .i64 h2 ∧ (p ≤ pv2 ∧ pv2 < y) ∧ RwS wx b n g3 ∧ Swp p y g g3 ∧ GrownP (fun i => i = b) w wx)
      case first =>
        rcases bh with _ | _
        ·skip
         go_wp2_with fail
         go_meet
         exact ⟨pv, hh, g2, rfl, rfl, HPV.out, HR.out, HS2.out, HG.out⟩
        ·skip
         go_wp2_with fail
         refine (sreverse_any b n c0 p y g2 w3 HR.out HP.out.2.1 HM2.out.2 (by have := HN.out; omega) (by have := HM2.out; omega)).mono ?_
         rintro e w4 ⟨g3, rfl, hr, hs, _, hg⟩
         have HF := hid (show RwS w4 b n g3 ∧ Swp p y g g3 ∧ GrownP (fun i => i = b) w w4 from ⟨hr, HS2.out.trans hs, HG.out.trans hg⟩)
         clear hr hs hg
         obtain ⟨y0, hy0⟩ : ∃ y0, y = y0 + 1 := ⟨y - 1, by have := HM2.out; omega⟩
         obtain ⟨e0, he0⟩ : ∃ e0, pv = p + e0 := ⟨pv - p, by have := HPV.out; omega⟩
         obtain ⟨pv2, hpv2⟩ : ∃ pv2, y0 = e0 + pv2 := ⟨y0 - e0, by have := HPV.out; omega⟩
         have HPV2 := hid (show p ≤ pv2 ∧ pv2 < y by have := HPV.out; omega)
         have hwa : IntKind.i64.wrap ((y : Int) - 1) = (y0 : Int) := by have := HM2.out; have := HN.out; rw [IntKind.wrap_i64]; omega
         have hwb : IntKind.i64.wrap ((pv : Int) - (p : Int)) = (e0 : Int) := by have := HM2.out; have := HN.out; have := HPV.out; rw [IntKind.wrap_i64]; omega
         have hwc : IntKind.i64.wrap ((y0 : Int) - (e0 : Int)) = (pv2 : Int) := by have := HM2.out; have := HN.out; have := HPV.out; rw [IntKind.wrap_i64]; omega
         clear hy0 he0 hpv2
         go_wp2_with fail
         go_meet
         exact ⟨pv2, 1, g3, rfl, rfl, HPV2.out, HF.out⟩
      case rest =>
        obtain ⟨pv2, h2, g3, rfl, rfl, hp, hr, hs, hg⟩ := hcut
        rename World => w5
        clear HPV
        replace HR := hid hr; replace HS2 := hid hs; replace HG := hid hg; have HPV := hid hp
        clear hp hr hs hg HBH
        go_upto_region 15 with fail
        go_cut [68] (fun s68 wx => ∃ bb : Bool, s68 = .bool bb ∧ wx = w5)
        case first =>
          rcases b1 with _ | _ <;> rcases b2 with _ | _
          all_goals
            go_wp2_with fail
            go_meet
            exact ⟨_, rfl, rfl⟩
        case rest =>
          obtain ⟨bb, rfl, hw⟩ := hcut
          have hw := hw.symm
          subst hw
          go_upto_if 68 with fail
          go_cut [] (fun wx => ∃ (g4 : Nat → Int), RwS wx b n g4 ∧ Swp p y g g4 ∧ GrownP (fun i => i = b) w wx)
          case first =>
            rcases bb with _ | _
            ·skip
             go_wp2_with fail
             go_meet
             exact ⟨g3, HR.out, HS2.out, HG.out⟩
            ·skip
             go_wp2_with fail
             refine (spins_any b n c0 p y g3 w5 HR.out (by have := HM2.out; omega) HM2.out.2 (by have := HN.out; omega) (HLB.out.swp HS2.out)).mono ?_
             rintro e w6 ⟨ok, g4, rfl, hr, hs, ho, hg⟩
             have HR6 := hid hr; have HS6 := hid (HS2.out.trans hs); have HO6 := hid ho; have HG6 := hid (HG.out.trans hg)
             clear hr hs ho hg
             rcases ok with _ | _
             ·skip
              go_wp2_with fail
              go_meet
              exact ⟨g4, HR6.out, HS6.out, HG6.out⟩
             ·skip
              have HF := hid (show SoP w b n a z f (Srt a z) (.returned (.tuple #[])) w6 from ⟨g4, rfl, HR6.out, HS.out.then_ HS6.out HP.out.1 HP.out.2.2.1, (HGL.out.swp HS6.out HP.out.1 HP.out.2.2.1).fin (HO6.out rfl), HG6.out⟩)
              go_wp2_with fail
              go_end0
              exact HF.out
          case rest =>
            obtain ⟨g4, hr, hs, hg⟩ := hcut
            rename World => w7
            replace HR := hid hr; replace HS2 := hid hs; replace HG := hid hg
            have HS4 := hid (HS.out.then_ hs HP.out.1 HP.out.2.2.1); have HLB4 := hid (HLB.out.swp hs); have HGL4 := hid (HGL.out.swp hs HP.out.1 HP.out.2.2.1)
            clear hr hs hg HS HLB HGL HS2
            go_upto_region 17 with fail
            have hip : (pv2 : Int) < (n : Int) := by have := HPV.out; have := HM2.out; omega
            have HBX := hid (Below.refl w7.heap.size w7)
            by_cases hp0 : p = 0
            ·skip
             have hd : ¬ ((0 : Int) < (p : Int)) := by omega
             have hdn : ¬ (0 < p) := by omega
             clear hp0
             have bx := (Below.refl w7.heap.size w7).drew
             replace HR := hid (HR.out.step bx); replace HG := hid (HG.out.step bx); replace HBX := hid (below_then HBX.out bx)
             clear bx
             have hszd := hid (show w7.drew.heap.size = w7.heap.size from rfl)
             refine wp_region_noPanic ?_
             refine wp_region_held_drew (S := (fun W' : World => True)) (by kernel_rfl) trivial (fun hS => ?_)
             generalize w7.drew = Wd at *
             refine tk 0 hS ?_
             refine tk 1 hS ?_
             refine tk 2 hS ?_
             refine tku 3 hS ?_
             refine tku 4 hS ?_
             refine tku 5 hS ?_
             refine tku 6 hS ?_
             refine tku 7 hS ?_
             refine tku 8 hS ?_
             refine tku 9 hS ?_
             refine tku 10 hS ?_
             refine tku 11 hS ?_
             refine tku 12 hS ?_
             refine tku 13 hS ?_
             refine tk 14 hS ?_
             refine wpAnyH_done (by kernel_rfl) ?_ _
             refine NoPanic.normal ?_
             clear hS
             go_wp2_with fail
             refine (spart_any b n c0 p y pv2 g4 Wd HR.out (by have := HM2.out; omega) HM2.out.2 (by have := HN.out; omega) HPV.out.1 HPV.out.2).mono ?_
             rintro e w8 ⟨mi, ap, g5, rfl, hr, hs, hpa, hg⟩
             replace HR := hid hr; replace HG := hid (HG.out.trans hg); have HPA := hid hpa
             have HS5 := hid (HS4.out.then_ hs HP.out.1 HP.out.2.2.1); have HLB5 := hid (HLB4.out.swp hs); have HGL5 := hid (HGL4.out.swp hs HP.out.1 HP.out.2.2.1)
             clear hr hs hpa hg HS4 HLB4 HGL4
             have HMM := hid (show p ≤ mi ∧ mi < y ∧ y ≤ n from ⟨HPA.out.1, HPA.out.2.1, HM2.out.2⟩)
             obtain ⟨l1, hl1⟩ : ∃ l1, mi = p + l1 := ⟨mi - p, by have := HMM.out; omega⟩
             obtain ⟨r1, hr1⟩ : ∃ r1, y = mi + r1 := ⟨y - mi, by have := HMM.out; omega⟩
             have hwl : IntKind.i64.wrap ((mi : Int) - (p : Int)) = (l1 : Int) := by have := HMM.out; have := HN.out; rw [IntKind.wrap_i64]; omega
             have hwr : IntKind.i64.wrap ((y : Int) - (mi : Int)) = (r1 : Int) := by have := HMM.out; have := HN.out; rw [IntKind.wrap_i64]; omega
             have hwm : IntKind.i64.wrap ((mi : Int) + 1) = ((mi + 1 : Nat) : Int) := by have := HMM.out; have := HN.out; rw [IntKind.wrap_i64]; omega
             clear hl1 hr1
             by_cases hlr : l1 < r1
             ·skip
              have hd : (l1 : Int) < (r1 : Int) := by omega
              clear hlr
              go_wp2_with fail
              refine (IH.out (mi - p) (by have := HMM.out; have := HH.out; have := HP.out; omega) p mi l2 g5 w8 rfl HR.out HMM.out.1 (by have := HMM.out; omega) HL.out.1 HL.out.2 (fun h0 k h1 h2 => HLB5.out h0 k h1 (by have := HMM.out; omega))).mono ?_
              rintro e w9 ⟨g6, rfl, hr, hs, ho, hg⟩
              have HPL := hid (pa_left HPA.out hs ho); replace HR := hid hr; replace HG := hid (HG.out.trans hg)
              have HS6 := hid (HS5.out.then_ hs HP.out.1 (by have := HMM.out; have := HP.out; omega)); have HGL6 := hid ((HGL5.out.swp (hs.mono (Nat.le_refl _) (by have := HMM.out; omega)) HP.out.1 HP.out.2.2.1).left HPL.out.1)
              clear hr hs ho hg
              go_wp2_with fail
              refine ⟨⟨mi + 1, y, l2, _, ap, g6, rfl, rfl, rfl, rfl, rfl, ⟨by have := HMM.out; have := HP.out; omega, HMM.out.2.1, HP.out.2.2.1, HL.out.1, HL.out.2⟩, HR.out, HS6.out, HPL.out.2, HGL6.out, HG.out⟩, ?_⟩
              have h1 : intOf (.int .i64 (y : Int)) = (y : Int) := rfl
              have h2 : intOf (.int .i64 ((mi : Int) + 1)) = (mi : Int) + 1 := rfl
              have h3 : intOf (.int .i64 (y : Int)) = (y : Int) := rfl
              have h4 : intOf (.int .i64 (p : Int)) = (p : Int) := rfl
              simp only [h1, h2, h3, h4]; have h5 := HMM.out; have h6 := HM2.out; omega
             have hd : ¬ ((l1 : Int) < (r1 : Int)) := by omega
             clear hlr
             go_wp2_with fail
             refine (IH.out (y - (mi + 1)) (by have := HMM.out; have := HH.out; have := HP.out; omega) (mi + 1) y l2 g5 w8 rfl HR.out (by have := HMM.out; omega) HMM.out.2.2 HL.out.1 HL.out.2 (fun _ k h1 h2 => by rw [Nat.add_sub_cancel]; exact HPA.out.2.2.2 k (by omega) h2)).mono ?_
             rintro e w9 ⟨g6, rfl, hr, hs, ho, hg⟩
             have HPL := hid (pa_right HPA.out hs ho); replace HR := hid hr; replace HG := hid (HG.out.trans hg)
             have HSP := hid (hs.mono (show p ≤ mi + 1 by have := HMM.out; omega) (Nat.le_refl _))
             have HS6 := hid (HS5.out.then_ HSP.out HP.out.1 HP.out.2.2.1); have HGL6 := hid ((HGL5.out.swp HSP.out HP.out.1 HP.out.2.2.1).right HPL.out); have HLB6 := hid (HLB5.out.swp HSP.out)
             clear hr hs ho hg
             go_wp2_with fail
             refine ⟨⟨p, mi, l2, _, ap, g6, rfl, rfl, rfl, rfl, rfl, ⟨HP.out.1, HMM.out.1, by have := HMM.out; have := HP.out; omega, HL.out.1, HL.out.2⟩, HR.out, HS6.out, fun h0 k h1 h2 => HLB6.out h0 k h1 (by have := HMM.out; omega), HGL6.out, HG.out⟩, ?_⟩
             have h1 : intOf (.int .i64 (mi : Int)) = (mi : Int) := rfl
             have h2 : intOf (.int .i64 (p : Int)) = (p : Int) := rfl
             have h3 : intOf (.int .i64 (y : Int)) = (y : Int) := rfl
             have h4 : intOf (.int .i64 (p : Int)) = (p : Int) := rfl
             simp only [h1, h2, h3, h4]; have h5 := HMM.out; have h6 := HM2.out; omega
            obtain ⟨p1, hp1⟩ : ∃ p1, p = p1 + 1 := ⟨p - 1, by omega⟩
            have HP1 := hid hp1
            have hd : (0 : Int) < (p : Int) := by omega
            have hdn : 0 < p := by omega
            have hw1 : IntKind.i64.wrap ((p : Int) - 1) = (p1 : Int) := by have := HM2.out; have := HN.out; rw [IntKind.wrap_i64]; omega
            have HPN := hid (show p1 < n ∧ pv2 < n by have := HM2.out; have := HPV.out; omega)
            have hi1 : (p1 : Int) < (n : Int) := by have := HPN.out; omega
            clear hp0 hp1
            have bx := (Below.refl w7.heap.size w7).drew
            replace HR := hid (HR.out.step bx); replace HG := hid (HG.out.step bx); replace HBX := hid (below_then HBX.out bx)
            clear bx
            have hszd := hid (show w7.drew.heap.size = w7.heap.size from rfl)
            refine wp_region_noPanic ?_
            refine wp_region_held_drew (S := (fun W' : World => W'.cell? ⟨b, p1, none⟩ = some (.int .u64 (g4 p1)) ∧ W'.cell? ⟨b, pv2, none⟩ = some (.int .u64 (g4 pv2)))) (by kernel_rfl) ⟨(HR.out.cell p1 HPN.out.1), (HR.out.cell pv2 HPN.out.2)⟩ (fun hS => ?_)
            generalize w7.drew = Wd at *
            refine tk 0 hS ?_
            refine tk 1 hS ?_
            refine tk 2 hS ?_
            refine tk 3 hS ?_
            refine tk 4 hS ?_
            refine tk 5 hS ?_
            refine tk 6 hS ?_
            refine tk 7 hS ?_
            refine tk 8 hS ?_
            refine tk 9 hS ?_
            refine tk 10 hS ?_
            refine tk 11 hS ?_
            refine rdy [12] (csy (fun K hK => ?_) AllReadyH.nil)
            go_simp
            refine (less_b (g4 p1) (g4 pv2) _).mono ?_
            rintro e w12 ⟨rfl, hb⟩
            have hsz0 := hid (show Wd.heap.size ≤ w12.heap.size from hb.size)
            replace HR := hid (HR.out.step hb); replace HG := hid (HG.out.step hb); replace HBX := hid (below_then HBX.out hb)
            clear hb
            go_wp2_with fail
            clear hS
            refine ky hK ⟨(HR.out.cell p1 HPN.out.1), (HR.out.cell pv2 HPN.out.2)⟩ fun hS => ?_
            clear hK K
            refine tk 13 hS ?_
            refine tk 14 hS ?_
            refine wpAnyH_done (by kernel_rfl) ?_ _
            refine NoPanic.normal ?_
            clear hS
            by_cases hlt : g4 p1 < g4 pv2
            ·skip
             have hl : decide (g4 p1 < g4 pv2) = true := decide_eq_true hlt
             rw [hl]
             clear hl hlt
             go_wp2_with fail
             refine (spart_any b n c0 p y pv2 g4 w12 HR.out (by have := HM2.out; omega) HM2.out.2 (by have := HN.out; omega) HPV.out.1 HPV.out.2).mono ?_
             rintro e w8 ⟨mi, ap, g5, rfl, hr, hs, hpa, hg⟩
             replace HR := hid hr; replace HG := hid (HG.out.trans hg); have HPA := hid hpa
             have HS5 := hid (HS4.out.then_ hs HP.out.1 HP.out.2.2.1); have HLB5 := hid (HLB4.out.swp hs); have HGL5 := hid (HGL4.out.swp hs HP.out.1 HP.out.2.2.1)
             clear hr hs hpa hg HS4 HLB4 HGL4
             have HMM := hid (show p ≤ mi ∧ mi < y ∧ y ≤ n from ⟨HPA.out.1, HPA.out.2.1, HM2.out.2⟩)
             obtain ⟨l1, hl1⟩ : ∃ l1, mi = p + l1 := ⟨mi - p, by have := HMM.out; omega⟩
             obtain ⟨r1, hr1⟩ : ∃ r1, y = mi + r1 := ⟨y - mi, by have := HMM.out; omega⟩
             have hwl : IntKind.i64.wrap ((mi : Int) - (p : Int)) = (l1 : Int) := by have := HMM.out; have := HN.out; rw [IntKind.wrap_i64]; omega
             have hwr : IntKind.i64.wrap ((y : Int) - (mi : Int)) = (r1 : Int) := by have := HMM.out; have := HN.out; rw [IntKind.wrap_i64]; omega
             have hwm : IntKind.i64.wrap ((mi : Int) + 1) = ((mi + 1 : Nat) : Int) := by have := HMM.out; have := HN.out; rw [IntKind.wrap_i64]; omega
             clear hl1 hr1
             by_cases hlr : l1 < r1
             ·skip
              have hd : (l1 : Int) < (r1 : Int) := by omega
              clear hlr
              go_wp2_with fail
              refine (IH.out (mi - p) (by have := HMM.out; have := HH.out; have := HP.out; omega) p mi l2 g5 w8 rfl HR.out HMM.out.1 (by have := HMM.out; omega) HL.out.1 HL.out.2 (fun h0 k h1 h2 => HLB5.out h0 k h1 (by have := HMM.out; omega))).mono ?_
              rintro e w9 ⟨g6, rfl, hr, hs, ho, hg⟩
              have HPL := hid (pa_left HPA.out hs ho); replace HR := hid hr; replace HG := hid (HG.out.trans hg)
              have HS6 := hid (HS5.out.then_ hs HP.out.1 (by have := HMM.out; have := HP.out; omega)); have HGL6 := hid ((HGL5.out.swp (hs.mono (Nat.le_refl _) (by have := HMM.out; omega)) HP.out.1 HP.out.2.2.1).left HPL.out.1)
              clear hr hs ho hg
              go_wp2_with fail
              refine ⟨⟨mi + 1, y, l2, _, ap, g6, rfl, rfl, rfl, rfl, rfl, ⟨by have := HMM.out; have := HP.out; omega, HMM.out.2.1, HP.out.2.2.1, HL.out.1, HL.out.2⟩, HR.out, HS6.out, HPL.out.2, HGL6.out, HG.out⟩, ?_⟩
              have h1 : intOf (.int .i64 (y : Int)) = (y : Int) := rfl
              have h2 : intOf (.int .i64 ((mi : Int) + 1)) = (mi : Int) + 1 := rfl
              have h3 : intOf (.int .i64 (y : Int)) = (y : Int) := rfl
              have h4 : intOf (.int .i64 (p : Int)) = (p : Int) := rfl
              simp only [h1, h2, h3, h4]; have h5 := HMM.out; have h6 := HM2.out; omega
             have hd : ¬ ((l1 : Int) < (r1 : Int)) := by omega
             clear hlr
             go_wp2_with fail
             refine (IH.out (y - (mi + 1)) (by have := HMM.out; have := HH.out; have := HP.out; omega) (mi + 1) y l2 g5 w8 rfl HR.out (by have := HMM.out; omega) HMM.out.2.2 HL.out.1 HL.out.2 (fun _ k h1 h2 => by rw [Nat.add_sub_cancel]; exact HPA.out.2.2.2 k (by omega) h2)).mono ?_
             rintro e w9 ⟨g6, rfl, hr, hs, ho, hg⟩
             have HPL := hid (pa_right HPA.out hs ho); replace HR := hid hr; replace HG := hid (HG.out.trans hg)
             have HSP := hid (hs.mono (show p ≤ mi + 1 by have := HMM.out; omega) (Nat.le_refl _))
             have HS6 := hid (HS5.out.then_ HSP.out HP.out.1 HP.out.2.2.1); have HGL6 := hid ((HGL5.out.swp HSP.out HP.out.1 HP.out.2.2.1).right HPL.out); have HLB6 := hid (HLB5.out.swp HSP.out)
             clear hr hs ho hg
             go_wp2_with fail
             refine ⟨⟨p, mi, l2, _, ap, g6, rfl, rfl, rfl, rfl, rfl, ⟨HP.out.1, HMM.out.1, by have := HMM.out; have := HP.out; omega, HL.out.1, HL.out.2⟩, HR.out, HS6.out, fun h0 k h1 h2 => HLB6.out h0 k h1 (by have := HMM.out; omega), HGL6.out, HG.out⟩, ?_⟩
             have h1 : intOf (.int .i64 (mi : Int)) = (mi : Int) := rfl
             have h2 : intOf (.int .i64 (p : Int)) = (p : Int) := rfl
             have h3 : intOf (.int .i64 (y : Int)) = (y : Int) := rfl
             have h4 : intOf (.int .i64 (p : Int)) = (p : Int) := rfl
             simp only [h1, h2, h3, h4]; have h5 := HMM.out; have h6 := HM2.out; omega
            have hl : decide (g4 p1 < g4 pv2) = false := decide_eq_false hlt
            have HLT := hid (show g4 pv2 ≤ g4 p1 by omega)
            rw [hl]
            clear hl hlt
            go_wp2_with fail
            refine (speq_any b n c0 p y pv2 g4 w12 HR.out (by have := HM2.out; omega) HM2.out.2 (by have := HN.out; omega) HPV.out.1 HPV.out.2).mono ?_
            rintro e w8 ⟨mi, g5, rfl, hr, hs, hm1, hm2, hlo, hhi, hg⟩
            replace HR := hid hr; replace HG := hid (HG.out.trans hg)
            have HMM := hid (show p ≤ mi ∧ p < mi ∧ mi ≤ y ∧ y ≤ n from ⟨Nat.le_of_lt hm1, hm1, hm2, HM2.out.2⟩)
            have HALL := hid (hs.all (P := fun v => g4 pv2 ≤ v) (fun k h1 h2 => by have h3 := HLB4.out (by have := HP1.out; omega) k h1 h2; rw [show p - 1 = p1 by have := HP1.out; omega] at h3; have := HLT.out; omega))
            have HS5 := hid (HS4.out.then_ hs HP.out.1 HP.out.2.2.1); have HGL5 := hid ((HGL4.out.swp hs HP.out.1 HP.out.2.2.1).left (m := mi) (fun i j h1 h2 h3 h4 => by have := hlo i h1 h2; have := HALL.out j (by omega) h4; omega))
            have HLB5 := hid (show LB mi y g5 from fun h0 k h1 h2 => by have h3 := hlo (mi - 1) (by omega) (by omega); have := hhi k h1 h2; omega)
            clear hr hs hm1 hm2 hlo hhi hg
            go_wp2_with fail
            refine ⟨⟨mi, y, l2, b1, b2, g5, rfl, rfl, rfl, rfl, rfl, ⟨by have := HMM.out; have := HP.out; omega, HMM.out.2.2.1, HP.out.2.2.1, HL.out.1, HL.out.2⟩, HR.out, HS5.out, HLB5.out, HGL5.out, HG.out⟩, ?_⟩
            have h1 : intOf (.int .i64 (y : Int)) = (y : Int) := rfl
            have h2 : intOf (.int .i64 (mi : Int)) = (mi : Int) := rfl
            have h3 : intOf (.int .i64 (y : Int)) = (y : Int) := rfl
            have h4 : intOf (.int .i64 (p : Int)) = (p : Int) := rfl
            simp only [h1, h2, h3, h4]; have h5 := HMM.out; have h6 := HM2.out; omega
end Go.Proofs.YtfipdoofgbjbjaaGreat

/- slices.Sort at words: an owned row is sorted. No condition but sizes. -/
namespace Go.Proofs.YtfipdoofgbjbjaaGreat
open Go.RowKit
attribute [local go_sem] Oper.semAt_some
theorem map_range (xs : List Int) : (List.range xs.length).map (fun k => xs[k]?.getD 0) = xs := by
  refine List.ext_getElem (by simp) fun i h1 h2 => ?_
  simp [List.getElem?_eq_getElem h2]
def ZP (w : World) (x : Ending) (w' : World) : Prop := x = .returned (.tuple #[]) ∧ w' = w
/-- what Sort hands back -/
def SrtP (w : World) (lo : Nat) (A : Option Addr) (n : Nat) (xs : List Int) (x : Ending) (w' : World) : Prop :=
  ∃ ys : List Int, x = .returned (.tuple #[]) ∧ ys.Perm xs ∧ ys.Pairwise (· ≤ ·) ∧ Sl u64v 0 w' 0 w'.heap.size A n ys ∧ GrownP (fun i => lo ≤ i) w w'
set_option maxRecDepth 4000 in
theorem ssort_pos (b n c0 : Nat) (f : Nat → Int) (w : World) (h : RwS w b n f) (h1 : 1 ≤ n) (hn : n ≤ 250) :
    Calls Tryz.prog 23 #[.slice (some ⟨b, 0, none⟩) n c0] w (SoP w b n 0 n f (Srt 0 n)) := by
  have HR := hid h; have HN := hid (And.intro h1 hn)
  have hw1 : IntKind.u64.wrap (n : Int) = (n : Int) := by rw [IntKind.wrap_u64]; omega
  clear h h1 hn
  go_enter Tryz.func23, Tryz.ntmps23
  go_wp2_with fail
  refine (len_any n w HN.out.1 (by have := HN.out; omega)).mono ?_
  rintro e w1 ⟨⟨L, rfl, hL⟩, rfl⟩
  have HL := hid hL
  clear hL hw1
  go_wp2_with fail
  refine (spdq_any b n c0 HN.out.2 n 0 n (L : Int) f w1 (Nat.sub_zero n) HR.out (Nat.zero_le _) (Nat.le_refl _) (by omega) (by have := HL.out; omega) (fun h => absurd h (Nat.lt_irrefl 0))).mono ?_
  rintro e w2 ⟨g, rfl, hr, hs, ho, hg⟩
  have HF := hid (show SoP w1 b n 0 n f (Srt 0 n) (.returned (.tuple #[])) w2 from ⟨g, rfl, hr, hs, ho, hg⟩)
  clear hr hs ho hg
  go_wp2_with fail
  go_end0
  exact HF.out
set_option maxRecDepth 100000 in
theorem len64_zero (w : World) : Calls Tryz.prog 113 #[.int .u64 0] w fun e w' => e = .returned (.int .i64 0) ∧ w' = w := by
  go_enter Tryz.func113, Tryz.ntmps113
  go_wp2_with fail
  go_ret
  exact ⟨by kernel_rfl, rfl⟩
set_option maxRecDepth 100000 in
theorem len_zero (w : World) : Calls Tryz.prog 67 #[.int .u64 0] w fun e w' => e = .returned (.int .i64 0) ∧ w' = w := by
  go_enter Tryz.func67, Tryz.ntmps67
  go_wp2_with fail
  refine (len64_zero w).mono ?_
  rintro e w1 ⟨rfl, rfl⟩
  go_wp2_with fail
  go_ret
  exact ⟨rfl, rfl⟩
theorem sins_zero (A : Option Addr) (c : Nat) (w : World) : Calls Tryz.prog 103 #[.slice A 0 c, .int .i64 0, .int .i64 0] w fun e w' => e = .returned (.tuple #[]) ∧ w' = w := by
  go_enter Tryz.func103, Tryz.ntmps103
  go_wp2_with fail
  go_loopw [6] (fun i wr => i = .int .i64 1 ∧ wr = w) (fun _ _ => 0)
  case atStart => exact ⟨rfl, rfl⟩
  case round =>
    obtain ⟨rfl, rfl⟩ := hrel
    go_wp2_with fail
    go_end0
    exact ⟨rfl, rfl⟩
set_option maxRecDepth 4000 in
theorem spdq_zero (A : Option Addr) (c : Nat) (w : World) : Calls Tryz.prog 66 #[.slice A 0 c, .int .i64 0, .int .i64 0, .int .i64 0] w (ZP w) := by
  go_enter Tryz.func66, Tryz.ntmps66
  go_wp2_with fail
  go_loopw [1, 2, 3, 8, 9] (fun s1 s2 _ _ _ wr => s1 = .int .i64 0 ∧ s2 = .int .i64 0 ∧ wr = w) (fun _ _ _ _ _ _ => 0)
  case atStart => exact ⟨rfl, rfl, rfl⟩
  case round =>
    obtain ⟨rfl, rfl, rfl⟩ := hrel
    go_wp2_with fail
    refine (sins_zero A c _).mono ?_
    rintro e w1 ⟨rfl, rfl⟩
    go_wp2_with fail
    go_end0
    exact ⟨rfl, rfl⟩
theorem ssort_zero (A : Option Addr) (c : Nat) (w : World) : Calls Tryz.prog 23 #[.slice A 0 c] w fun e w' => e = .returned (.tuple #[]) ∧ w' = w := by
  have hw1 : IntKind.u64.wrap (0 : Int) = 0 := by rw [IntKind.wrap_u64]; omega
  go_enter Tryz.func23, Tryz.ntmps23
  go_wp2_with fail
  refine (len_zero w).mono ?_
  rintro e w1 ⟨rfl, rfl⟩
  go_wp2_with fail
  refine (spdq_zero A c _).mono ?_
  rintro e w2 ⟨rfl, rfl⟩
  go_wp2_with fail
  go_end0
  exact ⟨rfl, rfl⟩
theorem ssort_any (lo : Nat) (A : Option Addr) (n c0 : Nat) (xs : List Int) (w : World) (h : Ow u64v w lo 35 A n c0 xs) (hn : n ≤ 250) :
    Calls Tryz.prog 23 #[.slice A n c0] w (SrtP w lo A n xs) := by
  have hl := h.len
  by_cases h0 : n = 0
  · subst h0
    refine (ssort_zero A c0 w).mono ?_
    rintro e w1 ⟨rfl, rfl⟩
    obtain rfl : xs = [] := List.eq_nil_of_length_eq_zero hl
    exact ⟨[], rfl, .refl _, .nil, ⟨rfl, fun h => absurd h (by omega)⟩, .refl _ _⟩
  · obtain ⟨b, rfl, hlo, _⟩ := h.at_ 0 (k := 0) (by omega)
    have hr : RwS w b n (fun k => xs[k]?.getD 0) := ⟨fun k hk => by
      obtain ⟨b', e, _, _, hc, _⟩ := h.at_ 0 hk
      cases e; exact hc, fun k hk => by
      obtain ⟨b', e, _, _, _, hf⟩ := h.at_ 0 hk
      cases e; exact hf⟩
    refine (ssort_pos b n c0 _ w hr (by omega) hn).mono ?_
    rintro e w1 ⟨g, rfl, hr2, hs, ho, hg⟩
    refine ⟨(List.range n).map g, rfl, ?_, ?_, ⟨by simp, fun _ => ⟨b, 0, rfl, Nat.zero_le _, cell_lt' (hr2.cell 0 (by omega)), fun k hk => ?_⟩⟩, hg.mono (fun i hi => by rw [hi]; exact hlo)⟩
    · have := hs.perm (Nat.le_refl n)
      rw [← hl, map_range, hl] at this
      exact this
    · refine List.pairwise_iff_getElem.2 fun i j h1 h2 h3 => ?_
      simp only [List.getElem_map, List.getElem_range]
      exact ho i j (Nat.zero_le _) h3 (by simpa using h2)
    · rw [Nat.zero_add, hr2.cell k hk]
      have : ((List.range n).map g)[k]?.getD 0 = g k := by simp [List.getElem?_range hk]
      rw [this]
theorem sorted_one {xs ys xs' ys' : List Int} (h : xs.Perm ys) (h1 : xs'.Perm xs) (h2 : ys'.Perm ys) (o1 : xs'.Pairwise (· ≤ ·)) (o2 : ys'.Pairwise (· ≤ ·)) : xs' = ys' :=
  List.Perm.eq_of_pairwise (le := (· ≤ ·)) (fun a b _ _ h h' => Int.le_antisymm h h') o1 o2 (h1.trans (h.trans h2.symm))
end Go.Proofs.YtfipdoofgbjbjaaGreat

/- slices.Equal of callbacks, queue.Same. No condition but sizes. -/
namespace Go.Proofs.YtfipdoofgbjbjaaGreat
open Go.RowKit
set_option maxHeartbeats 2000000 in
theorem eqcb_any (A : Option Addr) (n c : Nat) (xs : List Cb) (B : Option Addr) (m d : Nat) (ys : List Cb) (w : World) (h : Sm 2 encC (0, 0) w 0 w.heap.size A n xs) (h' : Sm 2 encC (0, 0) w 0 w.heap.size B m ys) (hn : n ≤ 1000000) (hm : m ≤ 1000000) :
    Calls Tryz.prog 102 #[.slice A n c, .slice B m d] w fun e w' => e = .returned (.bool (decide (xs = ys))) ∧ Below w.heap.size w w' := by
  have HR := hid h; have HT := hid h'; have HB := hid (Below.refl w.heap.size w)
  have hl := hid h.len; have hl' := hid h'.len
  clear h h'
  by_cases h2 : n = m
  · subst h2
    have hnn : ((n : Int) != (n : Int)) = false := by simp
    go_enter Tryz.func102, Tryz.ntmps102
    go_wp2_with fail
    clear hnn
    have HB0 := hid (Below.refl w.heap.size w)
    go_loopw [13] (fun i wr => ∃ j : Nat, j ≤ n ∧ i = .int .i64 j ∧ Below w.heap.size w wr ∧ ∀ k, k < j → xs[k]?.getD (0, 0) = ys[k]?.getD (0, 0)) (fun i _ => n - (intOf i).toNat)
    case atStart => exact ⟨0, Nat.zero_le _, rfl, HB0.out, fun k hk => absurd hk (Nat.not_lt_zero _)⟩
    case round =>
      obtain ⟨j, hj, rfl, hbr, hall⟩ := hrel
      have HA := hid hall
      clear hall HB0
      replace HR := hid (HR.out.step hbr); replace HT := hid (HT.out.step hbr); replace HB := hid (below_then HB.out hbr)
      clear hbr
      by_cases hjn : j < n
      · obtain ⟨b, off, rfl, _, hbh, hc⟩ := HR.out.row (by omega)
        obtain ⟨f0, f1⟩ := Sm.cb (lo := 0) (hi := wr.heap.size) hc hjn
        obtain ⟨⟨x0, x1⟩, hx⟩ : ∃ x, x = xs[j]?.getD (0, 0) := ⟨_, rfl⟩
        rw [← hx] at f0 f1
        have hjc : (j : Int) < (n : Int) := by omega
        have HX := hid hx
        clear hx hc
        obtain ⟨b', off', rfl, _, hbh', hc⟩ := HT.out.row (by omega)
        obtain ⟨f0', f1'⟩ := Sm.cb (lo := 0) (hi := wr.heap.size) hc hjn
        obtain ⟨⟨v0, v1⟩, hy⟩ : ∃ y, y = ys[j]?.getD (0, 0) := ⟨_, rfl⟩
        rw [← hy] at f0' f1'
        have HY := hid hy
        clear hy hc
        go_upto_region 6 with fail
        have hne := neq_cb x0 x1 v0 v1
        go_quiet (fail)
        clear f0 f1 f0' f1' hne
        by_cases he : (x0, x1) = (v0, v1)
        · have e1 : (!decide (x0 = v0) || !decide (x1 = v1)) = false := by simp at he; simp [he]
          rw [e1]
          clear e1
          go_wp2
          go_roundw
          case rel =>
            refine ⟨j + 1, by omega, by go_num, below_drewN HB.out _, fun k hk => ?_⟩
            by_cases hkj : k = j
            · subst hkj; rw [← HX.out, ← HY.out]; exact he
            · exact HA.out k (by omega)
          case measure => simp [intOf]; omega
        · have e1 : (!decide (x0 = v0) || !decide (x1 = v1)) = true := by
            simp at he
            by_cases h9 : x0 = v0
            · simp [h9, he h9]
            · simp [h9]
          have E := hid (show decide (xs = ys) = false from decide_eq_false (fun h => he (by rw [HX.out, HY.out, h])))
          rw [e1]
          clear e1 he
          go_wp2
          go_ret
          exact ⟨ret_bool E.out.symm, below_drewN HB.out _⟩
      · obtain rfl : j = n := by omega
        have E := hid (show decide (xs = ys) = true from decide_eq_true (ext_getDg (0, 0) hl.out hl'.out HA.out))
        go_wp2
        go_ret
        exact ⟨ret_bool E.out.symm, HB.out⟩
  · have hnn : ((n : Int) != (m : Int)) = true := by simp; omega
    have E := hid (show decide (xs = ys) = false from decide_eq_false (fun h => h2 (by rw [← hl.out, ← hl'.out, h])))
    clear h2
    go_enter Tryz.func102, Tryz.ntmps102
    go_wp2
    go_ret
    exact ⟨ret_bool E.out.symm, HB.out⟩
theorem qsame_any (A : Option Addr) (n c : Nat) (o : Int) (xs : List Cb) (B : Option Addr) (m d : Nat) (o' : Int) (ys : List Cb) (w : World) (h : Sm 2 encC (0, 0) w 0 w.heap.size A n xs) (h' : Sm 2 encC (0, 0) w 0 w.heap.size B m ys) (hn : n ≤ 1000000) (hm : m ≤ 1000000) :
    Calls Tryz.prog 64 #[qv A n c o, qv B m d o'] w fun e w' => e = .returned (.bool (sameQ o xs o' ys)) ∧ Below w.heap.size w w' := by
  have HR := hid h; have HT := hid h'; have HB := hid (Below.refl w.heap.size w)
  clear h h'
  have bx := below_box w (.cells (qcs A n c o) 58)
  replace HR := hid (HR.out.step bx); replace HT := hid (HT.out.step bx); replace HB := hid (below_then HB.out bx)
  clear bx
  have PQ := hid (Blk.new w 58 (qcs A n c o))
  have bx := below_box (w.alloc (.cells (qcs A n c o) 58)) (.cells (qcs B m d o') 58)
  replace HR := hid (HR.out.step bx); replace HT := hid (HT.out.step bx); replace PQ := hid (PQ.out.step bx); replace HB := hid (below_then HB.out bx)
  clear bx
  have PR := hid (Blk.new2 w 58 (qcs B m d o') (.cells (qcs A n c o) 58))
  by_cases h1 : o = o'
  · subst h1
    have hno : (o == o) = true := by simp
    have E := hid (show sameQ o xs o ys = decide (xs = ys) from by simp [sameQ])
    obtain ⟨y00, y01, yf0⟩ := PQ.out.cells2
    obtain ⟨y10, y11, yf1⟩ := PR.out.cells2
    go_enter Tryz.func64, Tryz.ntmps64
    go_wp2_with fail
    clear hno y00 y01 yf0 y10 y11 yf1
    refine (eqcb_any A n c xs B m d ys _ HR.out HT.out hn hm).mono ?_
    rintro e w1 ⟨rfl, hb⟩
    replace HR := hid (HR.out.step hb); replace HT := hid (HT.out.step hb); replace PQ := hid (PQ.out.step hb); replace PR := hid (PR.out.step hb); replace HB := hid (below_then HB.out hb)
    clear hb
    rw [← E.out]
    go_wp2
    go_ret
    exact ⟨rfl, HB.out⟩
  · have hno : (o == o') = false := by simpa using h1
    have E := hid (show sameQ o xs o' ys = false from decide_eq_false (fun h => h1 h.1))
    clear h1
    obtain ⟨y00, y01, yf0⟩ := PQ.out.cells2
    obtain ⟨y10, y11, yf1⟩ := PR.out.cells2
    go_enter Tryz.func64, Tryz.ntmps64
    go_wp2
    go_ret
    exact ⟨ret_bool E.out.symm, HB.out⟩
end Go.Proofs.YtfipdoofgbjbjaaGreat

/- reader.Same, grace.Same, rcu.Same at two that are the same. No condition but sizes. -/
namespace Go.Proofs.YtfipdoofgbjbjaaGreat
open Go.RowKit
attribute [local go_sem] Oper.semAt_some
theorem rdsame_eq (now : Int) (A : Option Addr) (n c : Nat) (B : Option Addr) (m d : Nat) (A' : Option Addr) (n' c' : Nat) (B' : Option Addr) (m' d' : Nat) (ns os : List Int) (w : World) (h : Rds w A n c B m d ns os) (h' : Rds w A' n' c' B' m' d' ns os) :
    Calls Tryz.prog 61 #[rv now A n c B m d, rv now A' n' c' B' m' d'] w fun e w' => e = .returned (.bool true) ∧ Below w.heap.size w w' := by
  have HR := hid h; have HT := hid h'; have HB := hid (Below.refl w.heap.size w)
  clear h h'
  have bx := below_box w (.cells (rcs now A n c B m d) 24)
  replace HR := hid (HR.out.step bx); replace HT := hid (HT.out.step bx); replace HB := hid (below_then HB.out bx)
  clear bx
  have P := hid (Blk.new w 24 (rcs now A n c B m d))
  have bx := below_box (w.alloc (.cells (rcs now A n c B m d) 24)) (.cells (rcs now A' n' c' B' m' d') 24)
  replace HR := hid (HR.out.step bx); replace HT := hid (HT.out.step bx); replace P := hid (P.out.step bx); replace HB := hid (below_then HB.out bx)
  clear bx
  have P2 := hid (Blk.new2 w 24 (rcs now A' n' c' B' m' d') (.cells (rcs now A n c B m d) 24))
  have hno : (now == now) = true := by simp
  obtain ⟨y00, y01, y02, yf0⟩ := P.out.cells3
  obtain ⟨y10, y11, y12, yf1⟩ := P2.out.cells3
  go_enter Tryz.func61, Tryz.ntmps61
  go_wp2_with fail
  clear y00 y01 y02 yf0 y10 y11 y12 yf1
  refine (eq_below A A' n c n' c' ns ns HR.out.hx HT.out.hx HR.out.hn HT.out.hn).mono ?_
  rintro e w1 ⟨rfl, hb⟩
  replace HR := hid (HR.out.step hb); replace HT := hid (HT.out.step hb); replace P := hid (P.out.step hb); replace P2 := hid (P2.out.step hb); replace HB := hid (below_then HB.out hb)
  clear hb
  rw [decide_eq_true rfl]
  obtain ⟨y00, y01, y02, yf0⟩ := P.out.cells3
  obtain ⟨y10, y11, y12, yf1⟩ := P2.out.cells3
  go_wp2_with fail
  clear y00 y01 y02 yf0 y10 y11 y12 yf1
  refine (eq_below B B' m d m' d' os os HR.out.hy HT.out.hy HR.out.hm HT.out.hm).mono ?_
  rintro e w2 ⟨rfl, hb⟩
  replace HR := hid (HR.out.step hb); replace HT := hid (HT.out.step hb); replace P := hid (P.out.step hb); replace P2 := hid (P2.out.step hb); replace HB := hid (below_then HB.out hb)
  clear hb
  rw [decide_eq_true rfl]
  go_wp2_with fail
  go_ret
  exact ⟨rfl, HB.out⟩
theorem gsame_eq (g : Gr) (D D' : Option Addr) (k k' : Nat) (w : World) (h : Sl blv false w 0 w.heap.size D g.nd.length g.nd) (h' : Sl blv false w 0 w.heap.size D' g.nd.length g.nd) (hn : g.nd.length ≤ 1000) :
    Calls Tryz.prog 62 #[.agg #[.int .i64 g.dn, .int .i64 g.ak, .bool g.on, .slice D g.nd.length k], .agg #[.int .i64 g.dn, .int .i64 g.ak, .bool g.on, .slice D' g.nd.length k']] w fun e w' => e = .returned (.bool true) ∧ Below w.heap.size w w' := by
  have HR := hid h; have HT := hid h'; have HB := hid (Below.refl w.heap.size w); have HN := hid hn
  obtain ⟨nd, dn, ak, on⟩ := g
  dsimp only at HR HT HN ⊢
  clear h h' hn
  have bx := below_box w (.cells #[.int .i64 dn, .int .i64 ak, .bool on, .slice D nd.length k] 27)
  replace HR := hid (HR.out.step bx); replace HT := hid (HT.out.step bx); replace HB := hid (below_then HB.out bx)
  clear bx
  have P := hid (Blk.new w 27 #[.int .i64 dn, .int .i64 ak, .bool on, .slice D nd.length k])
  have bx := below_box (w.alloc (.cells #[.int .i64 dn, .int .i64 ak, .bool on, .slice D nd.length k] 27)) (.cells #[.int .i64 dn, .int .i64 ak, .bool on, .slice D' nd.length k'] 27)
  replace HR := hid (HR.out.step bx); replace HT := hid (HT.out.step bx); replace P := hid (P.out.step bx); replace HB := hid (below_then HB.out bx)
  clear bx
  have P2 := hid (Blk.new2 w 27 #[.int .i64 dn, .int .i64 ak, .bool on, .slice D' nd.length k'] (.cells #[.int .i64 dn, .int .i64 ak, .bool on, .slice D nd.length k] 27))
  have hn1 : (dn == dn) = true := by simp
  have hn2 : (ak == ak) = true := by simp
  have hn3 : (on == on) = true := by simp
  obtain ⟨y00, y01, y02, y03, yf0⟩ := P.out.cells4
  obtain ⟨y10, y11, y12, y13, yf1⟩ := P2.out.cells4
  go_enter Tryz.func62, Tryz.ntmps62
  go_wp2_with fail
  clear y00 y01 y02 y03 yf0 y10 y11 y12 y13 yf1
  refine (equal_bool D D' nd.length k nd.length k' _ _ _ _ nd nd _ HR.out HT.out (by have := HN.out; omega) (by have := HN.out; omega)).mono ?_
  rintro e w1 ⟨rfl, hb⟩
  replace HR := hid (HR.out.step hb); replace HT := hid (HT.out.step hb); replace P := hid (P.out.step hb); replace P2 := hid (P2.out.step hb); replace HB := hid (below_then HB.out hb)
  clear hb
  rw [decide_eq_true rfl]
  go_wp2_with fail
  go_ret
  exact ⟨rfl, HB.out⟩
set_option maxHeartbeats 2000000 in
theorem eqfq_eq (A A' : Option Addr) (n c c' : Nat) (es es' : List Qe) (w : World) (h : Sm 2 encQ zQe w 0 w.heap.size A n es) (h' : Sm 2 encQ zQe w 0 w.heap.size A' n es') (hn : n ≤ 1000) (he : ∀ x ∈ es, QeR w x) (he' : ∀ x ∈ es', QeR w x) (hq : ql es = ql es') :
    Calls Tryz.prog 63 #[.slice A n c, .slice A' n c', .func (.func 64) #[] #[]] w fun e w' => e = .returned (.bool true) ∧ Below w.heap.size w w' := by
  have HR := hid h; have HT := hid h'; have HE := hid he; have HE2 := hid he'; have HQ := hid hq; have HN := hid hn; have hl := hid h.len; have hl2 := hid h'.len
  have HB := hid (Below.refl w.heap.size w)
  have eg := enters_of Tryz.func64 (by kernel_rfl) rfl
  clear h h' he he' hq hn
  have hnn : ((n : Int) != (n : Int)) = false := by simp
  go_enter Tryz.func63, Tryz.ntmps63
  go_wp2_with fail
  clear hnn
  go_loopw [17] (fun i wr => ∃ j : Nat, j ≤ n ∧ i = .int .i64 j ∧ Below w.heap.size w wr) (fun i _ => n - (intOf i).toNat)
  case atStart => exact ⟨0, Nat.zero_le _, rfl, HB.out⟩
  case round =>
    obtain ⟨j, hj, rfl, hb⟩ := hrel
    rename World => wr
    replace HB := hid hb
    clear hb
    by_cases hjn : j < n
    rotate_left
    ·skip
     have hd : ¬ ((j : Int) < (n : Int)) := by omega
     go_wp2_with fail
     go_ret
     exact ⟨rfl, HB.out⟩
    have hd : (j : Int) < (n : Int) := by omega
    have HJ := hid hjn
    have hw1 : IntKind.i64.wrap ((j : Int) + 1) = ((j + 1 : Nat) : Int) := by have := HN.out; rw [IntKind.wrap_i64]; omega
    obtain ⟨b, off, hA, _, _, hc⟩ := (HR.out.step HB.out).row (by omega)
    have f0 := hc j hjn 0 (by omega)
    have f1 := hc j hjn 1 (by omega)
    obtain ⟨b', off', hA', _, _, hc'⟩ := (HT.out.step HB.out).row (by omega)
    have k0 := hc' j hjn 0 (by omega)
    have k1 := hc' j hjn 1 (by omega)
    obtain ⟨x, hx⟩ : ∃ x, x = es[j]?.getD zQe := ⟨_, rfl⟩
    obtain ⟨y, hy⟩ : ∃ y, y = es'[j]?.getD zQe := ⟨_, rfl⟩
    rw [← hx] at f0 f1
    rw [← hy] at k0 k1
    have hxm : x ∈ es := by rw [hx, List.getElem?_eq_getElem (by rw [hl.out]; exact hjn)]; exact List.getElem_mem _
    have hym : y ∈ es' := by rw [hy, List.getElem?_eq_getElem (by rw [hl2.out]; exact hjn)]; exact List.getElem_mem _
    have hxy : (x.l, x.o) = (y.l, y.o) := by
      have h1 := ql_at es (k := j) (by rw [hl.out]; exact hjn)
      have h2 := ql_at es' (k := j) (by rw [hl2.out]; exact hjn)
      rw [← hx] at h1; rw [← hy] at h2; rw [← h1, ← h2, HQ.out]
    have HX := hid ((HE.out x hxm).step HB.out); have HY := hid ((HE2.out y hym).step HB.out)
    obtain ⟨xl, xo, xA, xn, xc⟩ := x
    obtain ⟨yl, yo, yA, yn, yc⟩ := y
    simp only [Prod.mk.injEq] at hxy
    obtain ⟨rfl, rfl⟩ := hxy
    replace f0 : wr.cell? ⟨b, off + j * 2, none⟩ = some (.slice xA xn xc) := f0
    replace f1 : wr.cell? ⟨b, off + j * 2 + 1, none⟩ = some (.int .u64 xo) := f1
    replace k0 : wr.cell? ⟨b', off' + j * 2, none⟩ = some (.slice yA yn yc) := k0
    replace k1 : wr.cell? ⟨b', off' + j * 2 + 1, none⟩ = some (.int .u64 xo) := k1
    clear hc hc' hx hy hxm hym hjn
    rw [hA, hA']
    have bx := below_box wr (.cells #[.slice xA xn xc, .int .u64 xo] 58)
    replace HX := hid (HX.out.step bx); replace HY := hid (HY.out.step bx); replace HB := hid (below_then HB.out bx)
    clear bx
    have K0 := hid (Blk.new wr 58 #[.slice xA xn xc, .int .u64 xo])
    have bx := below_box (wr.alloc (.cells #[.slice xA xn xc, .int .u64 xo] 58)) (.cells #[.slice yA yn yc, .int .u64 xo] 58)
    replace HX := hid (HX.out.step bx); replace HY := hid (HY.out.step bx); replace K0 := hid (K0.out.step bx); replace HB := hid (below_then HB.out bx)
    clear bx
    have K1 := hid (Blk.new2 wr 58 #[.slice yA yn yc, .int .u64 xo] (.cells #[.slice xA xn xc, .int .u64 xo] 58))
    obtain ⟨y00, y01, yf0⟩ := K0.out.cells2
    obtain ⟨y10, y11, yf1⟩ := K1.out.cells2
    go_wp2_with fail
    clear y00 y01 yf0 y10 y11 yf1 f0 f1 k0 k1 hd hA hA'
    refine (qsame_any xA xn xc xo xl yA yn yc xo xl _ HX.out.1 HY.out.1 (by have h9 : xn ≤ 1000 := HX.out.2.2.1; omega) (by have h9 : yn ≤ 1000 := HY.out.2.2.1; omega)).mono ?_
    rintro e w2 ⟨rfl, hb⟩
    replace HB := hid (below_then HB.out hb)
    clear hb
    rw [show sameQ xo xl xo xl = true by simp [sameQ]]
    go_wp2_with fail
    go_roundw
    case rel => exact ⟨j + 1, HJ.out, by go_num, HB.out⟩
    case measure => simp [intOf]; have := HJ.out; omega
set_option maxRecDepth 100000 in
set_option maxHeartbeats 2000000 in
theorem rcsame_eq (s : St) (g : Gr) (es es' : List Qe) (a a' : Ra) (w : World) (h : RcR w s g es a) (h' : RcR w s g es' a') (hn : a.nq = es.length) (hn' : a'.nq = es'.length) (hq : ql es = ql es') :
    Calls Tryz.prog 21 #[rcv s g a, rcv s g a'] w fun e w' => e = .returned (.bool true) ∧ Below w.heap.size w w' := by
  have HR := hid h; have HT := hid h'; have HB := hid (Below.refl w.heap.size w); have HQ := hid hq
  have HNN := hid (show a'.nq = a.nq by rw [hn, hn', ← ql_len es, ← ql_len es', hq])
  clear h h' hn hn' hq
  have bx := below_box w (.cells (rcells s g a) 30)
  replace HR := hid (HR.out.step bx); replace HT := hid (HT.out.step bx); replace HB := hid (below_then HB.out bx)
  clear bx
  have P := hid (Blk.new w 30 (rcells s g a))
  have bx := below_box (w.alloc (.cells (rcells s g a) 30)) (.cells (rcells s g a') 30)
  replace HR := hid (HR.out.step bx); replace HT := hid (HT.out.step bx); replace P := hid (P.out.step bx); replace HB := hid (below_then HB.out bx)
  clear bx
  have P2 := hid (Blk.new2 w 30 (rcells s g a') (.cells (rcells s g a) 30))
  obtain ⟨y00, y01, y02, y03, y04, y05, y06, y07, yf0⟩ := P.out.cells8
  obtain ⟨y10, y11, y12, y13, y14, y15, y16, y17, yf1⟩ := P2.out.cells8
  go_enter Tryz.func21, Tryz.ntmps21
  go_wp2_with fail
  clear y00 y01 y02 y03 y04 y05 y06 y07 yf0 y10 y11 y12 y13 y14 y15 y16 y17 yf1
  refine (rdsame_eq s.1 a.A a.n a.k a.B a.m a.d a'.A a'.n a'.k a'.B a'.m a'.d s.2.1 s.2.2 _ HR.out.rd HT.out.rd).mono ?_
  rintro e w1 ⟨rfl, hb⟩
  replace HR := hid (HR.out.step hb); replace HT := hid (HT.out.step hb); replace P := hid (P.out.step hb); replace P2 := hid (P2.out.step hb); replace HB := hid (below_then HB.out hb)
  clear hb
  obtain ⟨y00, y01, y02, y03, y04, y05, y06, y07, yf0⟩ := P.out.cells8
  obtain ⟨y10, y11, y12, y13, y14, y15, y16, y17, yf1⟩ := P2.out.cells8
  go_wp2_with fail
  clear y00 y01 y02 y03 y04 y05 y06 y07 yf0 y10 y11 y12 y13 y14 y15 y16 y17 yf1
  refine (gsame_eq g a.D a'.D a.kd a'.kd _ HR.out.gd HT.out.gd HR.out.gl).mono ?_
  rintro e w2 ⟨rfl, hb⟩
  replace HR := hid (HR.out.step hb); replace HT := hid (HT.out.step hb); replace P := hid (P.out.step hb); replace P2 := hid (P2.out.step hb); replace HB := hid (below_then HB.out hb)
  clear hb
  obtain ⟨y00, y01, y02, y03, y04, y05, y06, y07, yf0⟩ := P.out.cells8
  obtain ⟨y10, y11, y12, y13, y14, y15, y16, y17, yf1⟩ := P2.out.cells8
  go_wp2_with fail
  clear y00 y01 y02 y03 y04 y05 y06 y07 yf0 y10 y11 y12 y13 y14 y15 y16 y17 yf1
  rw [HNN.out]
  refine (eqfq_eq a.Q a'.Q a.nq a.kq a'.kq es es' _ HR.out.qs (by have h := HT.out.qs; rw [HNN.out] at h; exact h) HR.out.ql HR.out.qe HT.out.qe HQ.out).mono ?_
  rintro e w3 ⟨rfl, hb⟩
  replace HR := hid (HR.out.step hb); replace HT := hid (HT.out.step hb); replace P := hid (P.out.step hb); replace P2 := hid (P2.out.step hb); replace HB := hid (below_then HB.out hb)
  clear hb
  go_wp2_with fail
  go_ret
  exact ⟨rfl, HB.out⟩
end Go.Proofs.YtfipdoofgbjbjaaGreat

/- what rcu.Settle hands back may be spoiled, and those below it not. No condition. -/
namespace Go.Proofs.YtfipdoofgbjbjaaGreat
open Go.RowKit
theorem Ow.wr {α : Type} {enc : α → Value} {d : α} {w : World} {lo n c : Nat} {e : TypeId} {A : Option Addr} {xs : List α} {l : Value} (h : Ow enc w lo e A n c xs) (he : ∀ x, likeV l (enc x)) : Wr w (fun i => lo ≤ i ∧ i < w.heap.size) A n 1 0 l := fun hn => by
  obtain ⟨g, e0, hlo, _, c0, _⟩ := h.at_ d hn
  refine ⟨g, 0, e0, ⟨hlo, cell_lt' c0⟩, fun k hk => ?_⟩
  obtain ⟨g1, e1, _, _, c1, f1⟩ := h.at_ d hk
  rw [e0] at e1; cases e1
  rw [show 0 + (k * 1 + 0) = k by omega]
  exact ⟨_, c1, he _, f1⟩
theorem Qown.wr {w : World} {lo n : Nat} {A : Option Addr} {xs : List Cb} (h : Qown w lo A n xs) : Wr w (fun i => lo ≤ i ∧ i < w.heap.size) A n 2 1 (.int .u64 0) := fun hn => by
  obtain ⟨b, off, e0, hlo, _, hc⟩ := h.sm.row hn
  refine ⟨b, off, e0, ⟨hlo, cell_lt' (hc 0 hn 1 (by omega))⟩, fun k hk => ?_⟩
  exact ⟨_, by rw [← Nat.add_assoc]; exact hc k hk 1 (by omega), ⟨_, rfl⟩, h.free hn b off e0 _⟩
theorem Wr.mono {w : World} {p q : Nat → Prop} {A : Option Addr} {n sz at' : Nat} {l : Value} (h : Wr w p A n sz at' l) (k : ∀ i, p i → q i) : Wr w q A n sz at' l := fun hn => by
  obtain ⟨b, off, h1, h2, h3⟩ := h hn
  exact ⟨b, off, h1, k _ h2, h3⟩
theorem Spl.mono {w : World} {p q : Nat → Prop} {a : Ra} {nd : Nat} {es : List Qe} (h : Spl w p a nd es) (k : ∀ i, p i → q i) : Spl w q a nd es :=
  ⟨h.wa.mono k, h.wb.mono k, h.wd.mono k, h.wq.mono k, h.qs, fun j hj => (h.ql j hj).mono k, h.na, h.nb, h.nn, h.nq, h.qn⟩
theorem CX.spl {w : World} {l gc : Nat} {s : St} {g : Gr} {es : List Qe} {ran : List Int} {a : Ra} {R : Option Addr} {nr kr : Nat} (h : CX w l gc s g es ran a R nr kr) (hd : g.nd.length ≤ 1000) (hq : a.nq ≤ 1000) : Spl w (fun i => l ≤ i ∧ i < w.heap.size) a g.nd.length es := by
  have hm : ∀ k, k < a.nq → es[k]?.getD zQe ∈ es := fun k hk => by
    have : k < es.length := by rw [h.qs.len]; exact hk
    rw [List.getElem?_eq_getElem this]; exact List.getElem_mem _
  refine ⟨h.ro.oa.wr (d := 0) (fun _ => ⟨_, rfl⟩), h.ro.ob.wr (d := 0) (fun _ => ⟨_, rfl⟩), h.gd.wr (d := false) (fun _ => ⟨_, rfl⟩), fun hn => ?_, fun hn => ?_, fun k hk => (h.qe _ (hm k hk)).1.wr, h.ro.hn, h.ro.hm, hd, hq, fun k hk => (h.qe _ (hm k hk)).2.2.1⟩
  · obtain ⟨g0, e0, hlo, _, c0, _⟩ := h.qs.at_ zQe hn
    refine ⟨g0, 0, e0, ⟨hlo, cell_lt' (c0 0 (by omega))⟩, fun k hk => ?_⟩
    obtain ⟨g1, e1, _, _, c1, f1⟩ := h.qs.at_ zQe hk
    rw [e0] at e1; cases e1
    exact ⟨_, by rw [Nat.zero_add]; exact c1 1 (by omega), ⟨_, rfl⟩, f1 _⟩
  · obtain ⟨g0, e0, hlo, _⟩ := h.qs.at_ zQe hn
    refine ⟨g0, 0, e0, fun k hk => ?_⟩
    obtain ⟨g1, e1, _, _, c1, f1⟩ := h.qs.at_ zQe hk
    rw [e0] at e1; cases e1
    rw [Nat.zero_add]
    exact c1 0 (by omega)
/-- what Settle hands back -/
def SeQ (r : Int × St × Gr × Qs × List Int) (w : World) (x : Ending) (w' : World) : Prop :=
  ∃ a es R kr, x = .returned (.tuple #[rcv r.2.1 r.2.2.1 a, .slice R r.2.2.2.2.length kr, .int .i64 r.1]) ∧ ql es = r.2.2.2.1 ∧ a.nq = es.length ∧ RcP (fun i => i < w.heap.size) w' r.2.1 r.2.2.1 es a ∧ Ow u64v w' w.heap.size 35 R r.2.2.2.2.length kr r.2.2.2.2 ∧ Spl w' (fun i => w.heap.size ≤ i) a r.2.2.1.nd.length es ∧ Below w.heap.size w w'
theorem rsettleQ_any (s : St) (g : Gr) (es : List Qe) (a : Ra) (w : World) (h : RcR w s g es a) : Calls Tryz.prog 16 #[rcv s g a] w (SeQ (settleC s g es) w) := by
  refine (rsettle_any s g es a w h).mono ?_
  rintro x w' ⟨a', R, nr, kr, rfl, ⟨es', gc, h1, h2⟩, hb⟩
  have hb2 : (settleC s g es).2.2.1.nd.length ≤ 1000 ∧ ((settleC s g es).2.2.1.dn ≤ 9223372036854775807 ∧ (settleC s g es).2.2.1.ak ≤ 9223372036854775807) ∧ es'.length ≤ 1000 := by
    by_cases h0 : (settleC s g es).1 = 0
    · obtain ⟨hg, hq, e⟩ := settleC_ok h0
      have hk := (settled (sv0_ok hg hq) rfl).1.1
      rw [e] at h1 ⊢
      have k1 := hk.1.2.1.small
      have k2 := hk.1.2.1.2.1
      have k3 := hk.1.2.1.2.2.2.2.2.1
      have k4 := hk.2.1
      dsimp only at h1 ⊢
      rw [← h1, ql_len] at k4
      exact ⟨by omega, by omega, by omega⟩
    · have hz := settleC_nz h0
      rw [hz] at h1 ⊢
      have : es' = [] := List.map_eq_nil_iff.1 h1
      rw [this]
      exact ⟨by decide, by decide, by decide⟩
  obtain rfl : (settleC s g es).2.2.2.2.length = nr := h2.rn.len
  exact ⟨a', es', R, kr, rfl, h1, h2.qs.len.symm, fun w2 k => (h2.lowP k (fun i hi => hi)).rcr0 hb2.1 hb2.2.1 (by have := h2.qs.len; omega), h2.rn, (h2.spl hb2.1 (by have := h2.qs.len; omega)).mono (fun i hi => hi.1), hb⟩
end Go.Proofs.YtfipdoofgbjbjaaGreat

/- afterglowlaw14.RcuRests returns true at every one, and turns nothing old. No condition. -/
namespace Go.Proofs.YtfipdoofgbjbjaaGreat
open Go.RowKit
attribute [local go_sem] Oper.semAt_some
theorem settleC_err {s : St} {g : Gr} {es : List Qe} (h : (settleC s g es).1 ≠ 0) : (settleC s g es).2.2.2.2 = [] ∧ ((settleC s g es).1 = 240 ∧ rcheckC s g es = 240 ∨ (settleC s g es).1 = 241 ∧ rcheckC s g es = 0) := by
  unfold settleC rcheckC at *
  by_cases hok : RcOk s g es
  · rw [if_pos hok] at h ⊢
    rw [if_pos hok]
    split at h
    · exact absurd rfl h
    · rename_i hq; rw [if_neg hq]; exact ⟨rfl, .inr ⟨rfl, rfl⟩⟩
  · rw [if_neg hok] at h ⊢
    rw [if_neg hok]
    exact ⟨rfl, .inl ⟨rfl, rfl⟩⟩
theorem eat_nil : ∀ l : List Int, eatF [] l = []
  | [] => rfl
  | _ :: _ => rfl
theorem settleC_again {s : St} {g : Gr} {es : List Qe} (hg : RcGood s g (ql es)) (hi : idleB s g (ql es) = true) (hq : quietB s = true) : settleC s g es = (0, s, g, ql es, []) := by
  have e : setF s (sv0 g es) = sv0 g es := setF_idle hi
  unfold settleC
  rw [if_pos (rcOk_iff.2 hg), if_pos hq, e]; rfl
set_option maxRecDepth 100000 in
set_option maxHeartbeats 8000000 in
theorem rrests_any (s0 : St) (g0 : Gr) (es0 : List Qe) (a0 : Ra) (w : World) (h : RcIn w s0 g0 es0 a0) :
    Calls Tryz.prog 5 #[rcv s0 g0 a0] w fun x w' => x = .returned (.bool true) ∧ Below w.heap.size w w' := by
  have HI := hid h; have HI0 := hid h; have HB := hid (Below.refl w.heap.size w)
  clear h
  have bx := below_box w (.cells (rcells s0 g0 a0) 30)
  replace HI := hid (HI.out.step bx); replace HB := hid (below_then HB.out bx)
  clear bx
  have PX := hid (Blk.new w 30 (rcells s0 g0 a0))
  go_enter Tryz.func5, Tryz.ntmps5
  go_wp2_with fail
  generalize w.alloc (.cells (rcells s0 g0 a0) 30) = W0 at *
  refine (rcwakes_any _).mono ?_
  rintro e w1 ⟨rfl, hb⟩
  replace HI := hid (HI.out.step hb); replace PX := hid (PX.out.step hb); replace HB := hid (below_then HB.out hb)
  clear hb
  obtain ⟨y00, y01, y02, y03, y04, y05, y06, y07, yf0⟩ := PX.out.cells8
  go_wp2_with fail
  clear y00 y01 y02 y03 y04 y05 y06 y07 yf0
  refine (ownP_any s0 g0 es0 a0 _ HI.out).mono ?_
  rintro e w2 ⟨a, es, rfl, hqc, hnq, hr, _, hb⟩
  obtain ⟨s, hs⟩ : ∃ s, s = cutS s0 := ⟨_, rfl⟩
  obtain ⟨g, hg⟩ : ∃ g, g = cutG g0 := ⟨_, rfl⟩
  have HS := hid hs; have HG := hid hg; have HQC := hid hqc
  rw [← hs, ← hg] at hr ⊢
  have RR := hid (hr.fresh.mono (q := fun i => w2.heap.size ≤ i) (fun i hi => .inr hi)); have NQ := hid hnq
  clear hs hg hr hnq hqc
  replace HI := hid (HI.out.step hb); replace PX := hid (PX.out.step hb); replace HB := hid (below_then HB.out hb)
  clear hb
  have HX0 := hid PX.out.lt
  have HB2 := HB
  have HL2 := hid (Nat.le_refl w2.heap.size)
  have bx := below_box w2 (.cells (rcells s g a) 30)
  replace HI := hid (HI.out.step bx); replace PX := hid (PX.out.step bx); replace RR := hid (RR.out.step bx); replace HB := hid (below_then HB.out bx)
  clear bx
  have P3 := hid (Blk.new w2 30 (rcells s g a))
  obtain ⟨y00, y01, y02, y03, y04, y05, y06, y07, yf0⟩ := P3.out.cells8
  go_wp2_with fail
  clear y00 y01 y02 y03 y04 y05 y06 y07 yf0
  have hz3 := hid (show (w2.alloc (.cells (rcells s g a) 30)).heap.size = w2.heap.size + 1 by simp)
  generalize w2.alloc (.cells (rcells s g a) 30) = W3 at *
  refine (rsettleQ_any s g es a W3 RR.out.rcr).mono ?_
  obtain ⟨r, hr⟩ : ∃ r, r = settleC s g es := ⟨_, rfl⟩
  rw [← hr]
  obtain ⟨r1, r2, r3, r4, r5⟩ := r
  have HRS := hid hr
  unfold SeQ
  dsimp only
  clear hr
  rintro e w4 ⟨an, esn, R, kr, rfl, hqn, hnn, hrn, hown, hspl, hb⟩
  have HQN := hid hqn; have HNN := hid hnn; have RN := hid (hrn.fresh.mono (q := fun i => w4.heap.size ≤ i) (fun i hi => .inr hi)); have HO := hid hown; have HOB := hid (show ∀ b, R = some b → b.block < w4.heap.size from fun b hb => by obtain ⟨_, cs, hk⟩ := hown.blk b hb; exact Blk.lt hk); have HSP := hid hspl
  have HL4 := hid (show w2.heap.size + 1 ≤ w4.heap.size by have := hb.size; have := hz3.out; omega)
  clear hqn hnn hrn hown hspl
  replace HI := hid (HI.out.step hb); replace PX := hid (PX.out.step hb); replace RR := hid (RR.out.step hb); replace P3 := hid (P3.out.step hb); replace HB := hid (below_then HB.out hb)
  clear hb
  have HSP2 := hid (fun (W' : World) (hk : KK w4 W') => HSP.out.kk hk)
  have HK := hid (Below.refl w4.heap.size w4)
  have bx := below_box w4 (.cells (rcells r2 r3 an) 30)
  replace HI := hid (HI.out.step bx); replace PX := hid (PX.out.step bx); replace RR := hid (RR.out.step bx); replace P3 := hid (P3.out.step bx); replace RN := hid (RN.out.step bx); replace HO := hid (HO.out.step bx); replace HB := hid (below_then HB.out bx); replace HK := hid (below_then HK.out bx)
  clear bx
  have P4 := hid (Blk.new w4 30 (rcells r2 r3 an))
  go_upto_region 5 with fail
  have hz4 := hid (show (w4.alloc (.cells (rcells r2 r3 an) 30)).heap.size = w4.heap.size + 1 by simp)
  generalize w4.alloc (.cells (rcells r2 r3 an) 30) = W5 at *
  by_cases hc : r1 = 0
  rotate_left
  ·skip
   have h0 := settleC_err (s := s) (g := g) (es := es) (by rw [← HRS.out]; exact hc)
   rw [← HRS.out] at h0
   dsimp only at h0
   obtain ⟨rfl, h0⟩ := h0
   rcases h0 with ⟨rfl, h1⟩ | ⟨rfl, h1⟩
   ·skip
    clear hc
    obtain ⟨y00, y01, y02, y03, y04, y05, y06, y07, yf0⟩ := P3.out.cells8
    go_wp2_with fail
    clear y00 y01 y02 y03 y04 y05 y06 y07 yf0
    refine (rcheck_any s g es a _ RR.out.rcr).mono ?_
    rintro e w6 ⟨rfl, hb⟩
    replace HI := hid (HI.out.step hb); replace PX := hid (PX.out.step hb); replace RR := hid (RR.out.step hb); replace P3 := hid (P3.out.step hb); replace RN := hid (RN.out.step hb); replace HO := hid (HO.out.step hb); replace P4 := hid (P4.out.step hb); replace HB := hid (below_then HB.out hb)
    clear hb
    rw [h1]
    clear h1
    go_wp2_with fail
    go_ret
    exact ⟨rfl, HB.out⟩
   ·skip
    clear hc
    obtain ⟨y00, y01, y02, y03, y04, y05, y06, y07, yf0⟩ := P3.out.cells8
    go_wp2_with fail
    clear y00 y01 y02 y03 y04 y05 y06 y07 yf0
    refine (rcheck_any s g es a _ RR.out.rcr).mono ?_
    rintro e w6 ⟨rfl, hb⟩
    replace HI := hid (HI.out.step hb); replace PX := hid (PX.out.step hb); replace RR := hid (RR.out.step hb); replace P3 := hid (P3.out.step hb); replace RN := hid (RN.out.step hb); replace HO := hid (HO.out.step hb); replace P4 := hid (P4.out.step hb); replace HB := hid (below_then HB.out hb)
    clear hb
    rw [h1]
    clear h1
    go_wp2_with fail
    go_ret
    exact ⟨rfl, HB.out⟩
  subst hc
  clear HK HSP2 HSP
  have HOKK := hid (settleC_ok (s := s) (g := g) (es := es) (by rw [← HRS.out]))
  have h0 := HOKK.out.2.2
  rw [← HRS.out] at h0
  obtain ⟨F, hF⟩ : ∃ F, F = setF s (sv0 g es) := ⟨_, rfl⟩
  have HF := hid (settled (sv0_ok HOKK.out.1 HOKK.out.2.1) rfl)
  rw [← hF] at h0 HF
  clear hF HRS
  cases h0
  have HFG := hid (show RcGood s F.g (ql esn) by rw [HQN.out]; exact HF.out.1.1)
  have HAG := hid (settleC_again (s := s) (g := F.g) (es := esn) HFG.out (by rw [HQN.out]; exact HF.out.2.1) HOKK.out.2.1)
  have HRL := hid (show F.ran.length = wN (ql es) by rw [← wAll_len]; exact HF.out.2.2.1.length_eq)
  obtain ⟨y00, y01, y02, y03, y04, y05, y06, y07, yf0⟩ := P4.out.cells8
  go_wp2_with fail
  clear y00 y01 y02 y03 y04 y05 y06 y07 yf0
  refine (show Calls Tryz.prog 16 #[rcv s F.g an] W5 (SeQ (0, s, F.g, ql esn, []) W5) from by rw [← HAG.out]; exact rsettleQ_any s F.g esn an W5 RN.out.rcr).mono ?_
  unfold SeQ
  dsimp only
  rintro e w6 ⟨a7, es7, R7, k7, rfl, hq7, hn7, hr7, hown7, _, hb⟩
  have HQ7 := hid hq7; have HN7 := hid hn7; have RN7 := hid hr7.fresh
  clear hq7 hn7 hr7 hown7
  replace HI := hid (HI.out.step hb); replace PX := hid (PX.out.step hb); replace RR := hid (RR.out.step hb); replace P3 := hid (P3.out.step hb); replace RN := hid (RN.out.step hb); replace HO := hid (HO.out.step hb); replace P4 := hid (P4.out.step hb); replace HB := hid (below_then HB.out hb)
  clear hb
  have bx := below_box w6 (.cells (rcells s F.g a7) 30)
  replace HI := hid (HI.out.step bx); replace PX := hid (PX.out.step bx); replace RR := hid (RR.out.step bx); replace P3 := hid (P3.out.step bx); replace RN := hid (RN.out.step bx); replace HO := hid (HO.out.step bx); replace P4 := hid (P4.out.step bx); replace RN7 := hid (RN7.out.step bx); replace HB := hid (below_then HB.out bx)
  clear bx
  have P7 := hid (Blk.new w6 30 (rcells s F.g a7))
  obtain ⟨y00, y01, y02, y03, y04, y05, y06, y07, yf0⟩ := P4.out.cells8
  go_wp2_with fail
  clear y00 y01 y02 y03 y04 y05 y06 y07 yf0
  generalize w6.alloc (.cells (rcells s F.g a7) 30) = W7 at *
  refine (ridle_any s F.g esn an _ RN.out.rcr).mono ?_
  rintro e w8 ⟨rfl, hb⟩
  replace HI := hid (HI.out.step hb); replace PX := hid (PX.out.step hb); replace RR := hid (RR.out.step hb); replace P3 := hid (P3.out.step hb); replace RN := hid (RN.out.step hb); replace HO := hid (HO.out.step hb); replace P4 := hid (P4.out.step hb); replace RN7 := hid (RN7.out.step hb); replace P7 := hid (P7.out.step hb); replace HB := hid (below_then HB.out hb)
  clear hb
  rw [decide_eq_true (rcOk_iff.2 HFG.out), show idleB s F.g (ql esn) = true by rw [HQN.out]; exact HF.out.2.1]
  obtain ⟨y00, y01, y02, y03, y04, y05, y06, y07, yf0⟩ := P7.out.cells8
  obtain ⟨y10, y11, y12, y13, y14, y15, y16, y17, yf1⟩ := P4.out.cells8
  go_wp2_with fail
  clear y00 y01 y02 y03 y04 y05 y06 y07 yf0 y10 y11 y12 y13 y14 y15 y16 y17 yf1
  refine (rcsame_eq s F.g es7 esn a7 an _ RN7.out.rcr RN.out.rcr HN7.out HNN.out HQ7.out).mono ?_
  rintro e w9 ⟨rfl, hb⟩
  replace HI := hid (HI.out.step hb); replace PX := hid (PX.out.step hb); replace RR := hid (RR.out.step hb); replace P3 := hid (P3.out.step hb); replace RN := hid (RN.out.step hb); replace HO := hid (HO.out.step hb); replace P4 := hid (P4.out.step hb); replace RN7 := hid (RN7.out.step hb); replace P7 := hid (P7.out.step hb); replace HB := hid (below_then HB.out hb)
  clear hb
  obtain ⟨y00, y01, y02, y03, y04, y05, y06, y07, yf0⟩ := P3.out.cells8
  go_wp2_with fail
  clear y00 y01 y02 y03 y04 y05 y06 y07 yf0
  refine (rwaiting_any s g es a _ RR.out.rcr).mono ?_
  rintro e wa ⟨rfl, hb⟩
  replace HI := hid (HI.out.step hb); replace PX := hid (PX.out.step hb); replace RR := hid (RR.out.step hb); replace P3 := hid (P3.out.step hb); replace RN := hid (RN.out.step hb); replace HO := hid (HO.out.step hb); replace P4 := hid (P4.out.step hb); replace RN7 := hid (RN7.out.step hb); replace P7 := hid (P7.out.step hb); replace HB := hid (below_then HB.out hb)
  clear hb
  rw [if_pos (rcOk_iff.2 HOKK.out.1), ← HRL.out]
  have hbl : ((F.ran.length : Int) != (F.ran.length : Int)) = false := by simp
  obtain ⟨y00, y01, y02, y03, y04, y05, y06, y07, yf0⟩ := P4.out.cells8
  go_wp2_with fail
  clear hbl y00 y01 y02 y03 y04 y05 y06 y07 yf0
  refine (rwaiting_any s F.g esn an _ RN.out.rcr).mono ?_
  rintro e wb ⟨rfl, hb⟩
  replace HI := hid (HI.out.step hb); replace PX := hid (PX.out.step hb); replace RR := hid (RR.out.step hb); replace P3 := hid (P3.out.step hb); replace RN := hid (RN.out.step hb); replace HO := hid (HO.out.step hb); replace P4 := hid (P4.out.step hb); replace RN7 := hid (RN7.out.step hb); replace P7 := hid (P7.out.step hb); replace HB := hid (below_then HB.out hb)
  clear hb
  rw [if_pos (rcOk_iff.2 HFG.out), show wN (ql esn) = 0 by rw [HQN.out]; exact idle_wN HF.out.2.1]
  clear P4 P7 RN RN7 HFG HAG HQ7 HN7 HQN HNN
  obtain ⟨y00, y01, y02, y03, y04, y05, y06, y07, yf0⟩ := P3.out.cells8
  go_wp2_with fail
  clear y00 y01 y02 y03 y04 y05 y06 y07 yf0
  have HZ := hid (Below.refl wb.heap.size wb)
  have HNQ := hid (show a.nq = es.length ∧ es.length ≤ 8 by have h1 := HOKK.out.1.2.1; have h2 := HOKK.out.1.1.2.1.2.1; rw [ql_len] at h1; exact ⟨NQ.out, by omega⟩)
  have HQ16 := hid (show ∀ x ∈ es, x.l.length ≤ 16 from fun x hx => (HOKK.out.1.2.2 _ (ql_mem hx)).1.2.1)
  have HWL := hid (show F.ran.length ≤ 250 by
    rw [HRL.out]
    have h2 := wN_le (es := es) (fun x hx => by have := HQ16.out x hx; omega) es.length
    rw [List.take_length] at h2
    have h3 := HNQ.out.2
    have h4 : ∀ es : List Qe, (∀ x ∈ es, x.l.length ≤ 16) → wN (ql es) ≤ 16 * es.length := fun es => by
      induction es with
      | nil => intro _; exact Nat.le_refl _
      | cons x es ih =>
        intro hh
        have := ih (fun y hy => hh y (List.mem_cons_of_mem _ hy))
        have h5 := hh x (List.mem_cons_self ..)
        unfold wN ql at this ⊢
        simp only [List.map_cons, List.sum_cons, List.length_cons]
        omega
    have := h4 es HQ16.out
    omega)
  have HKP := hid (show ∀ W, Below wb.heap.size wb W → RcIn W s0 g0 es0 a0 ∧ Blk W w.heap.size 30 (rcells s0 g0 a0) ∧ RcR W s g es a ∧ Blk W w2.heap.size 30 (rcells s g a) ∧ Ow u64v W W3.heap.size 35 R F.ran.length kr F.ran ∧ Below w.heap.size w W from fun W hb => ⟨HI.out.step hb, PX.out.step hb, RR.out.rcr.step hb, P3.out.step hb, HO.out.step hb, below_then HB.out hb⟩)
  have HLO := hid (show ∀ a, R = some a → a.block < wb.heap.size from fun a ha => by obtain ⟨_, cs, hk⟩ := HO.out.blk a ha; exact hk.lt)
  clear HI PX RR P3 HO HB
  go_loopw [81, 10] (fun i s10 wr => ∃ (j : Nat) (A : Option Addr) (na ca : Nat), i = .int .i64 j ∧ s10 = .slice A na ca ∧ j ≤ a.nq ∧ Ow u64v wr wb.heap.size 35 A na ca (wAll ((ql es).take j)) ∧ Below wb.heap.size wb wr) (fun i _ _ => a.nq - (intOf i).toNat)
  case atStart => exact ⟨0, none, 0, 0, rfl, rfl, Nat.zero_le _, Ow.nil _ _ _, HZ.out⟩
  case round =>
    obtain ⟨j, A, na, ca, rfl, rfl, hj, ho, hb⟩ := hrel
    rename World => wr
    replace HZ := hid hb; have HA := hid ho; have HJ := hid hj
    obtain ⟨hi, hpx, hrr, hp3, hho, hbb⟩ := HKP.out wr hb
    have RR := hid hrr; have P3 := hid hp3
    clear hb ho hj hi hpx hrr hp3 hho hbb
    by_cases hjn : j < a.nq
    rotate_left
    ·skip
     obtain rfl : j = a.nq := by have := HJ.out; omega
     have hnn : ¬ ((a.nq : Int) < (a.nq : Int)) := by omega
     have HTK : (ql es).take a.nq = ql es := List.take_of_length_le (by rw [ql_len]; have := HNQ.out; omega)
     have HAA := hid (show Ow u64v wr wb.heap.size 35 A na ca (wAll (ql es)) by have h := HA.out; rwa [HTK] at h)
     have HNA := hid (show na = F.ran.length by rw [HRL.out, ← wAll_len]; exact HAA.out.len.symm)
     have HZS := hid (show wb.heap.size ≤ wr.heap.size from HZ.out.size)
     clear hjn HTK HA
     go_wp2_with fail
     refine (ssort_any wb.heap.size A na ca _ wr HAA.out (by rw [HNA.out]; exact HWL.out)).mono ?_
     rintro e w11 ⟨ys, rfl, hpm, hpw, hsl, hg⟩
     have HB11 := hid (GrownP.below HZ.out hg (fun i hi => hi) HZS.out)
     have HPM := hid hpm; have HPW := hid hpw; have HYS := hid hsl
     have HS11 := hid (show w11.heap.size = w11.heap.size from rfl)
     clear hpm hpw hsl hg hnn
     go_wp2_with fail
     refine (clone_u64 R F.ran.length kr _ F.ran _ ((HKP.out _ HB11.out).2.2.2.2.1.sl (d := (0 : Int))) (by have := HWL.out; omega)).mono ?_
     rintro e w12 ⟨A2, c2, rfl, ov, hb⟩
     have HOV := hid ov; have HB12 := hid hb
     clear ov hb
     go_wp2_with fail
     refine (ssort_any w11.heap.size A2 F.ran.length c2 F.ran _ HOV.out HWL.out).mono ?_
     rintro e w13 ⟨zs, rfl, hpm, hpw, hsl, hg⟩
     have HB13 := hid (GrownP.below HB12.out hg (fun i hi => hi) HB12.out.size)
     have HPM2 := hid hpm; have HPW2 := hid hpw; have HZS2 := hid hsl
     clear hpm hpw hsl hg
     go_wp2_with fail
     replace HYS := hid ((HYS.out.below HB13.out (Nat.le_refl _)).mono (Nat.le_refl _) HB13.out.size)
     refine (equal_u64 A A2 na ca F.ran.length c2 _ _ _ _ ys zs w13 HYS.out HZS2.out (by have := HNA.out; have := HWL.out; omega) (by have := HWL.out; omega)).mono ?_
     rintro e w14 ⟨rfl, hb⟩
     have HB14 := hid hb
     clear hb
     rw [decide_eq_true (sorted_one (HF.out.2.2.1.symm) HPM.out HPM2.out HPW.out HPW2.out)]
     go_wp2_with fail
     refine bodyPost_ret (v := .bool true) (by simp [results, Tryz.results5, go_sem]) rfl ⟨rfl, ?_⟩
     exact (HKP.out _ (below_then (below_then HB11.out HB13.out) HB14.out)).2.2.2.2.2
    have hji : (j : Int) < (a.nq : Int) := by omega
    have HJN := hid hjn
    have hw1 : IntKind.i64.wrap ((j : Int) + 1) = ((j + 1 : Nat) : Int) := by have := HNQ.out; rw [IntKind.wrap_i64]; omega
    have HW1 := hid hw1
    obtain ⟨b, off, hQ, _, _, hc⟩ := RR.out.qs.row (by omega)
    have f0 := hc j hjn 0 (by omega)
    have f1 := hc j hjn 1 (by omega)
    obtain ⟨x, hx⟩ : ∃ x, x = es[j]?.getD zQe := ⟨_, rfl⟩
    rw [← hx] at f0 f1
    have hxm : x ∈ es := by rw [hx, List.getElem?_eq_getElem (by have := HNQ.out; omega)]; exact List.getElem_mem _
    have HXM := hid (show ∀ W, Below wb.heap.size wb W → QeR W x from fun W hb => (HKP.out W hb).2.2.1.qe x hxm); have HX16 := hid (HQ16.out x hxm)
    have HXA := hid (show wAll ((ql es).take (j + 1)) = wAll ((ql es).take j) ++ x.l.map Prod.snd by
      have h1 := ql_at es (k := j) (by have := HNQ.out; omega)
      rw [← hx] at h1
      have h2 : j < (ql es).length := by rw [ql_len]; have := HNQ.out; omega
      rw [List.take_succ_eq_append_getElem h2]
      rw [List.getElem?_eq_getElem h2, Option.getD_some] at h1
      unfold wAll
      rw [List.map_append, List.flatten_append, List.map_singleton, List.flatten_singleton, h1])
    have HXS := hid (show (x.l.map Prod.snd).Sublist F.ran by
      have h1 := HF.out.2.2.2 j
      rw [show (qAt (sv0 g es).qs j).1 = x.l by rw [hx]; exact congrArg Prod.fst (ql_at es (k := j) (by have := HNQ.out; omega))] at h1
      exact h1)
    obtain ⟨xl, xo, xA, xn, xc⟩ := x
    replace f0 : wr.cell? ⟨b, off + j * 2, none⟩ = some (.slice xA xn xc) := f0
    replace f1 : wr.cell? ⟨b, off + j * 2 + 1, none⟩ = some (.int .u64 xo) := f1
    dsimp only at HX16 HXA HXS
    clear hc hx hxm hjn hw1
    rw [hQ]
    have HAB := hid (show ∀ a, A = some a → a.block < wr.heap.size from fun a ha => by obtain ⟨_, cs, hk⟩ := HA.out.blk a ha; exact hk.lt)
    have HZ0 := hid (show wb.heap.size ≤ wr.heap.size from HZ.out.size)
    have bx := below_box wr (.cells #[.slice xA xn xc, .int .u64 xo] 58)
    replace HA := hid (HA.out.step bx); replace HZ := hid (below_then HZ.out bx)
    clear bx
    have PQ := hid (Blk.new wr 58 #[.slice xA xn xc, .int .u64 xo])
    obtain ⟨y00, y01, yf0⟩ := PQ.out.cells2
    go_wp2_with fail
    clear f0 f1 hji hQ y00 y01 yf0
    have HXL := hid (show xl.length = xn ∧ xn ≤ 16 by have h1 := (HXM.out wb (.refl _ _)).1.len; dsimp only at h1; exact ⟨h1, by rw [← h1]; exact HX16.out⟩)
    generalize wr.alloc (.cells #[.slice xA xn xc, .int .u64 xo] 58) = Wq at *
    go_loopw [88, 10] (fun i s10 w5 => ∃ (t : Nat) (A : Option Addr) (na ca : Nat), i = .int .i64 t ∧ s10 = .slice A na ca ∧ t ≤ xn ∧ Ow u64v w5 wb.heap.size 35 A na ca (wAll ((ql es).take j) ++ (xl.take t).map Prod.snd) ∧ Below wb.heap.size wb w5 ∧ Blk w5 wr.heap.size 58 #[.slice xA xn xc, .int .u64 xo] ∧ (∀ a, A = some a → a.block ≠ wr.heap.size)) (fun i _ _ => xn - (intOf i).toNat)
    case atStart => exact ⟨0, A, na, ca, rfl, rfl, Nat.zero_le _, by rw [List.take_zero, List.map_nil, List.append_nil]; exact HA.out, HZ.out, PQ.out, fun a ha => by have := HAB.out a ha; omega⟩
    case round =>
      obtain ⟨t, A5, na5, ca5, rfl, rfl, ht, ho, hz, hpq, hne⟩ := hrel
      rename World => w5
      replace HA := hid ho; replace HZ := hid hz; replace PQ := hid hpq; have HNE := hid hne; have HT := hid ht
      clear ho hz hpq hne ht HAB
      by_cases htx : t < xn
      rotate_left
      ·skip
       obtain rfl : xn = t := by have := HT.out; omega
       have hnn : ¬ ((xn : Int) < (xn : Int)) := by omega
       have HAL := hid (show Ow u64v w5 wb.heap.size 35 A5 na5 ca5 (wAll ((ql es).take (j + 1))) by rw [HXA.out]; have h := HA.out; rw [List.take_of_length_le (Nat.le_of_eq HXL.out.1)] at h; exact h)
       clear HA htx
       go_wp2_with fail
       clear hnn
       obtain ⟨ws, hws⟩ : ∃ ws, ws = xl.map Prod.snd := ⟨_, rfl⟩
       have HWS := hid hws
       have HWN := hid (show ws.length = xl.length by rw [hws, List.length_map])
       clear hws
       go_loopw [100, 13] (fun i s13 w6 => ∃ (t k : Nat), i = .int .i64 t ∧ s13 = .int .i64 k ∧ t ≤ F.ran.length ∧ k ≤ xl.length ∧ eatF (ws.drop k) (F.ran.drop t) = eatF ws F.ran ∧ w6 = w5) (fun i _ _ => F.ran.length - (intOf i).toNat)
       case atStart => exact ⟨0, 0, rfl, rfl, Nat.zero_le _, Nat.zero_le _, rfl, rfl⟩
       case round =>
         obtain ⟨i9, k, rfl, rfl, ht, hk, he, rfl⟩ := hrel
         have HE := hid he; have HT2 := hid (And.intro ht hk)
         clear ht hk he
         obtain ⟨y00, y01, yf0⟩ := PQ.out.cells2
         by_cases hin : i9 < F.ran.length
         rotate_left
         ·skip
          obtain rfl : i9 = F.ran.length := by have := HT2.out; omega
          have hnn2 : ¬ ((F.ran.length : Int) < (F.ran.length : Int)) := by omega
          have HKX := hid (show xl.length ≤ k by
            have h1 := HE.out
            rw [List.drop_length, HWS.out, eat_sub HXS.out] at h1
            have h2 : ((xl.map Prod.snd).drop k).length = 0 := by rw [show eatF ((xl.map Prod.snd).drop k) [] = (xl.map Prod.snd).drop k by cases (xl.map Prod.snd).drop k <;> rfl] at h1; rw [h1]; rfl
            rw [List.length_drop, List.length_map] at h2; omega)
          have hkx : ¬ ((k : Int) < (xn : Int)) := by have := HKX.out; have := HXL.out; omega
          have hw1 := HW1.out
          go_wp2_with fail
          refine ⟨⟨j + 1, A5, na5, ca5, rfl, rfl, HJN.out, HAL.out, HZ.out⟩, ?_⟩
          have h1 : intOf (.int .i64 ((j : Int) + 1)) = (j : Int) + 1 := rfl
          have h2 : intOf (.int .i64 (j : Int)) = (j : Int) := rfl
          have := HJN.out
          rw [h1, h2]; omega
         have hti : (i9 : Int) < (F.ran.length : Int) := by omega
         have HIN := hid hin
         obtain ⟨b, off, hR, _, _, hc⟩ := ((HKP.out _ HZ.out).2.2.2.2.1.sl (d := (0 : Int))).row (by omega)
         have k0 := hc i9 hin
         obtain ⟨v0, hv0⟩ : ∃ v0, v0 = F.ran[i9]?.getD 0 := ⟨_, rfl⟩
         rw [← hv0] at k0
         have HV0 := hid (show F.ran.drop i9 = v0 :: F.ran.drop (i9 + 1) by rw [List.drop_eq_getElem_cons hin, hv0, List.getElem?_eq_getElem hin]; rfl)
         have hwi : IntKind.i64.wrap ((i9 : Int) + 1) = ((i9 + 1 : Nat) : Int) := by have := HWL.out; rw [IntKind.wrap_i64]; omega
         replace k0 : wr.cell? ⟨b, off + i9, none⟩ = some (.int .u64 v0) := k0
         clear hc hin hv0
         by_cases hkx : k < xn
         rotate_left
         ·skip
          have hkn : ¬ ((k : Int) < (xn : Int)) := by omega
          go_wp2_with fail
          refine ⟨⟨i9 + 1, k, rfl, rfl, HIN.out, HT2.out.2, ?_, trivial⟩, ?_⟩
          ·have h1 := HE.out
           rw [HV0.out, List.drop_of_length_le (by have := HXL.out; have := HWN.out; omega)] at h1
           rw [List.drop_of_length_le (by have := HXL.out; have := HWN.out; omega), ← h1, eat_nil, eat_nil]
          have h1 : intOf (.int .i64 ((i9 : Int) + 1)) = (i9 : Int) + 1 := rfl
          have h2 : intOf (.int .i64 (i9 : Int)) = (i9 : Int) := rfl
          have := HIN.out
          rw [h1, h2]; omega
         have hkn : (k : Int) < (xn : Int) := by omega
         obtain ⟨bx, ox, hQ, _, _, hc⟩ := (HXM.out _ HZ.out).1.row (show 0 < xn by omega)
         have f1 := hc k hkx 1 (by omega)
         obtain ⟨cb, hcb⟩ : ∃ cb, cb = xl[k]?.getD (0, 0) := ⟨_, rfl⟩
         rw [← hcb] at f1
         obtain ⟨c1, c2⟩ := cb
         replace f1 : wr.cell? ⟨bx, ox + k * 2 + 1, none⟩ = some (.int .u64 c2) := f1
         have HWK := hid (show ws.drop k = c2 :: ws.drop (k + 1) by
           have h2 : k < ws.length := by have := HXL.out; have := HWN.out; omega
           have h3 : k < xl.length := by have := HXL.out; omega
           rw [List.drop_eq_getElem_cons h2]
           congr 1
           have h4 := HWS.out
           subst h4
           rw [List.getElem_map]
           rw [List.getElem?_eq_getElem h3, Option.getD_some] at hcb
           rw [← hcb])
         have hwk : IntKind.i64.wrap ((k : Int) + 1) = ((k + 1 : Nat) : Int) := by have := HXL.out; rw [IntKind.wrap_i64]; omega
         dsimp only at hQ
         have HKX := hid hkx
         clear hc hcb hkx
         subst hQ
         by_cases hcv : c2 = v0
         ·skip
          have HCV := hid hcv
          have hcb : (c2 == v0) = true := by rw [hcv]; exact beq_self_eq_true _
          clear hcv
          go_wp2_with fail
          refine ⟨⟨i9 + 1, k + 1, rfl, rfl, HIN.out, by have := HT2.out; have := HKX.out; have := HXL.out; omega, ?_, trivial⟩, ?_⟩
          ·have h1 := HE.out
           rw [HV0.out, HWK.out] at h1
           simp only [eatF] at h1
           rw [if_pos HCV.out] at h1
           exact h1
          have h1 : intOf (.int .i64 ((i9 : Int) + 1)) = (i9 : Int) + 1 := rfl
          have h2 : intOf (.int .i64 (i9 : Int)) = (i9 : Int) := rfl
          have := HIN.out
          rw [h1, h2]; omega
         ·skip
          have HCV := hid hcv
          have hcb : (c2 == v0) = false := beq_false_of_ne hcv
          clear hcv
          go_wp2_with fail
          refine ⟨⟨i9 + 1, k, rfl, rfl, HIN.out, by have := HT2.out; have := HKX.out; have := HXL.out; omega, ?_, trivial⟩, ?_⟩
          ·have h1 := HE.out
           rw [HV0.out, HWK.out] at h1
           rw [HWK.out, ← h1]
           simp only [eatF]
           rw [if_neg HCV.out]
          have h1 : intOf (.int .i64 ((i9 : Int) + 1)) = (i9 : Int) + 1 := rfl
          have h2 : intOf (.int .i64 (i9 : Int)) = (i9 : Int) := rfl
          have := HIN.out
          rw [h1, h2]; omega
      have hti : (t : Int) < (xn : Int) := by omega
      have HTX := hid htx
      have hw1 : IntKind.i64.wrap ((t : Int) + 1) = ((t + 1 : Nat) : Int) := by have := HXL.out; have := HTX.out; rw [IntKind.wrap_i64]; omega
      obtain ⟨b, off, hQ, _, _, hc⟩ := (HXM.out w5 HZ.out).1.row (show 0 < xn by omega)
      have f0 := hc t htx 0 (by omega)
      have f1 := hc t htx 1 (by omega)
      obtain ⟨cb, hcb⟩ : ∃ cb, cb = xl[t]?.getD (0, 0) := ⟨_, rfl⟩
      rw [← hcb] at f0 f1
      have HCB := hid (show (xl.take (t + 1)).map Prod.snd = (xl.take t).map Prod.snd ++ [cb.2] by
        have h2 : t < xl.length := by rw [HXL.out.1]; exact htx
        rw [List.take_succ_eq_append_getElem h2, List.map_append, hcb, List.getElem?_eq_getElem h2]; rfl)
      obtain ⟨c1, c2⟩ := cb
      replace f0 : w5.cell? ⟨b, off + t * 2, none⟩ = some (.int .u64 c1) := f0
      replace f1 : w5.cell? ⟨b, off + t * 2 + 1, none⟩ = some (.int .u64 c2) := f1
      dsimp only at HCB hQ
      clear hc hcb htx
      subst hQ
      have bx := below_box w5 (.cells #[.int .u64 c1, .int .u64 c2] 60)
      replace HA := hid (HA.out.step bx); replace PQ := hid (PQ.out.step bx); replace HZ := hid (below_then HZ.out bx)
      clear bx
      have PC := hid (Blk.new w5 60 #[.int .u64 c1, .int .u64 c2])
      obtain ⟨y00, y01, yf0⟩ := PC.out.cells2
      go_upto_region 18 with fail
      clear f0 f1 hti y00 y01 yf0
      have HZW := hid (show w5.heap.size ≤ (w5.alloc (.cells #[.int .u64 c1, .int .u64 c2] 60)).heap.size by simp)
      have HWR := hid PQ.out.lt
      generalize w5.alloc (.cells #[.int .u64 c1, .int .u64 c2] 60) = W6 at *
      obtain ⟨y00, y01, yf0⟩ := PC.out.cells2
      obtain ⟨i0, hi0, hz00, hz01, hz02⟩ := info_parts info_u64
      have hnb : na5 ≤ 1000 := by
        have h1 := HA.out.len
        rw [← h1, List.length_append, List.length_map, List.length_take]
        have h2 : (wAll ((ql es).take j)).length ≤ (wAll (ql es)).length := by
          have h3 : wAll (ql es) = wAll ((ql es).take j) ++ wAll ((ql es).drop j) := by
            unfold wAll
            rw [← List.flatten_append, ← List.map_append, List.take_append_drop]
          rw [h3, List.length_append]; omega
        rw [wAll_len (ql es)] at h2
        have := HXL.out; have := HWL.out; have := HRL.out; omega
      have hlz : wb.heap.size ≤ W6.heap.size := HZ.out.size
      go_wp2_with (at_builtin; refine wpList_app u64v 0 _ rfl _ _ 40 rfl wb.heap.size 35 i0 _ 8 Tryz.underlying40 hi0 hz00 hz01 hz02 rfl A5 na5 ca5 _ rfl (HA.out.alloc _) W6.heap.size (W6.heap.size + 1) _ 1 _ [c2] rfl (Sl.one' (by simp)) (fun _ => rfl) (by simp only [maxLen]; omega) (by omega) (by simp; omega) ?_; intro A6 ca6 w7 own7 hg7 hat7; have HZ7 := hid ((below_then2 HZ.out (below_box W6 (.cells #[.int .u64 c2] 35)) (Nat.le_refl _)).grown hg7 (by simp; omega) (fun r e => HA.out.row_ge r e)); have HAT := hid hat7; have PQ7 := hid (((PQ.out.step (below_box W6 (.cells #[.int .u64 c2] 35)))).grown hg7 (fun e => by obtain ⟨a, ha, hab⟩ := own_addr e.symm; exact HNE.out a ha hab)); have OWN7 := hid own7; clear own7 hg7 hat7)
      clear hi0 hz00 hz01 hz02 hnb hlz
      refine ⟨⟨t + 1, A6, na5 + 1, ca6, rfl, rfl, HTX.out, by rw [HCB.out, ← List.append_assoc]; exact OWN7.out, HZ7.out, PQ7.out, fun a ha e => ?_⟩, ?_⟩
      ·have h1 := HAT.out
       rw [ha] at h1
       rcases h1 with h1 | h1
       ·obtain ⟨a2, h2, h3⟩ := own_addr h1.symm
        exact HNE.out a2 h2 (by rw [h3]; exact e)
       ·have h4 := Option.some.inj h1
        have h5 := HWR.out; have h6 := HZW.out
        simp at h4
        omega
      have h1 : intOf (.int .i64 ((t : Int) + 1)) = (t : Int) + 1 := rfl
      have h2 : intOf (.int .i64 (t : Int)) = (t : Int) := rfl
      have := HTX.out
      rw [h1, h2]; omega
end Go.Proofs.YtfipdoofgbjbjaaGreat

/- What a law is told of all of chapter 14, and of a row of what CPUs do, that came in. No condition. -/
namespace Go.Proofs.YtfipdoofgbjbjaaGreat
open Go.ChangeShapes Go.WideShapes Go.ChangeAt Go.RowKit Go.Joins Go.Deep
theorem i64_wf {a : Int} (hw : Lit.wf (.int .i64 a) = true) : -9223372036854775808 ≤ a ∧ a ≤ 9223372036854775807 := by
  simp only [Lit.wf, IntKind.min, IntKind.max, IntKind.signed, IntKind.bits, Bool.and_eq_true, decide_eq_true_eq, if_true] at hw
  omega
theorem u64_wf {a : Int} (hw : Lit.wf (.int .u64 a) = true) : 0 ≤ a ∧ a ≤ 18446744073709551615 := by
  simp only [Lit.wf, IntKind.min, IntKind.max, IntKind.signed, IntKind.bits, Bool.and_eq_true, decide_eq_true_eq] at hw
  simp at hw
  omega
theorem Sm.toSl {α : Type} {enc : α → Value} {d : α} {w : World} {lo hi : Nat} {A : Option Addr} {n : Nat} {xs : List α} (h : Sm 1 (fun x _ => enc x) d w lo hi A n xs) : Sl enc d w lo hi A n xs :=
  ⟨h.len, fun hn => by
    obtain ⟨b, off, e, h1, h2, h3⟩ := h.row hn
    exact ⟨b, off, e, h1, h2, fun k hk => by have := h3 k hk 0 (by omega); simpa using this⟩⟩
section
variable {H : Type} {enc : TypeId × Value → H} {w : World} {base : Nat} {spare : Nat → Bool} {held : Bool}
theorem open_bools {fuel : Nat} {v : Value} {x : DataW H × List MemPlace} (h : DataW.trod enc Tryz.prog w base spare held fuel 25 [v] = some x) :
    ∃ A n c xs, v = .slice A n c ∧ n ≤ c ∧ c ≤ maxLen ∧ Sl blv false w 0 w.heap.size A n xs := by
  obtain ⟨A, n, c, xs, h1, h2, h3, h4, _⟩ := open_sm Tryz.underlying25 (sz := 1) (by kernel_rfl) (by omega) (fun (x : Bool) _ => blv x) false (fun _ => True) (fun n cs y hy => by
    obtain ⟨a, e0, _⟩ := DataW.trod_bool Tryz.underlying4 hy
    subst e0
    exact ⟨a, trivial, fun j hj => by obtain rfl : j = 0 := by omega
                                      rfl⟩) h
  exact ⟨A, n, c, xs, h1, h2, h3, h4.toSl⟩
set_option maxRecDepth 100000 in
theorem open_readers_el {n : Nat} {cs : List Value} {y : DataW H × List MemPlace} (h : DataW.trod enc Tryz.prog w base spare held n 24 cs = some y) :
    ∃ (now : Int) (A : Option Addr) (n c : Nat) (B : Option Addr) (m d : Nat) (xs ys : List Int), cs = [.int .i64 now, .slice A n c, .slice B m d] ∧ n ≤ c ∧ m ≤ d ∧ Sl i64 0 w 0 w.heap.size A n xs ∧ Sl i64 0 w 0 w.heap.size B m ys := by
  obtain ⟨xs, k, _, _, hlen, hl, hf⟩ := DataW.trod_struct Tryz.underlying24 h
  rw [show Tryz.prog.cellsOf 24 = 3 by kernel_rfl] at hlen
  match xs, hl, cs, hlen with
  | [y0, y1, y2], _, [v0, v1, v2], _ =>
    have c1 : Tryz.prog.cellsOf 3 = 1 := by kernel_rfl
    have c2 : Tryz.prog.cellsOf 22 = 1 := by kernel_rfl
    have h0 := hf 0 _ rfl
    have h1 := hf 1 _ rfl
    have h2 := hf 2 _ rfl
    simp [c1, c2] at h0 h1 h2
    obtain ⟨a0, e0, _⟩ := DataW.trod_int Tryz.underlying3 h0
    simp only [List.cons.injEq, and_true] at e0
    subst e0
    obtain ⟨A, n, c, xs, rfl, g3, g4, g5, _⟩ := open_islice h1
    obtain ⟨B, m, d, ys, rfl, g6, g7, g8, _⟩ := open_islice h2
    exact ⟨a0, A, n, c, B, m, d, xs, ys, rfl, g3, g6, g5, g8⟩
set_option maxRecDepth 100000 in
theorem open_grace_el {n : Nat} {cs : List Value} {y : DataW H × List MemPlace} (h : DataW.trod enc Tryz.prog w base spare held n 27 cs = some y) :
    ∃ (g : Gr) (D : Option Addr) (kd : Nat), cs = [.int .i64 g.dn, .int .i64 g.ak, .bool g.on, .slice D g.nd.length kd] ∧ g.nd.length ≤ kd ∧ Sl blv false w 0 w.heap.size D g.nd.length g.nd ∧ g.dn ≤ 9223372036854775807 ∧ g.ak ≤ 9223372036854775807 := by
  obtain ⟨xs, k, _, _, hlen, hl, hf⟩ := DataW.trod_struct Tryz.underlying27 h
  rw [show Tryz.prog.cellsOf 27 = 4 by kernel_rfl] at hlen
  match xs, hl, cs, hlen with
  | [y0, y1, y2, y3], _, [v0, v1, v2, v3], _ =>
    have c1 : Tryz.prog.cellsOf 3 = 1 := by kernel_rfl
    have c2 : Tryz.prog.cellsOf 4 = 1 := by kernel_rfl
    have c3 : Tryz.prog.cellsOf 25 = 1 := by kernel_rfl
    have h0 := hf 0 _ rfl
    have h1 := hf 1 _ rfl
    have h2 := hf 2 _ rfl
    have h3 := hf 3 _ rfl
    simp [c1, c2, c3] at h0 h1 h2 h3
    obtain ⟨a0, e0, _, k0⟩ := DataW.trod_int Tryz.underlying3 h0
    obtain ⟨a1, e1, _, k1⟩ := DataW.trod_int Tryz.underlying3 h1
    obtain ⟨b, e2, _⟩ := DataW.trod_bool Tryz.underlying4 h2
    simp only [List.cons.injEq, and_true] at e0 e1 e2
    subst e0 e1 e2
    obtain ⟨A, n, c, ys, rfl, g3, g4, g5⟩ := open_bools h3
    obtain rfl : ys.length = n := g5.len
    exact ⟨⟨ys, a0, a1, b⟩, A, c, rfl, g3, g5, (i64_wf k0).2, (i64_wf k1).2⟩
set_option maxRecDepth 100000 in
theorem open_cb_el {n : Nat} {cs : List Value} {y : DataW H × List MemPlace} (h : DataW.trod enc Tryz.prog w base spare held n 60 cs = some y) : ∃ x : Cb, True ∧ ∀ j, j < 2 → cs[j]? = some (encC x j) := by
  obtain ⟨xs, k, _, _, hlen, hl, hf⟩ := DataW.trod_struct Tryz.underlying60 h
  rw [show Tryz.prog.cellsOf 60 = 2 by kernel_rfl] at hlen
  match xs, hl, cs, hlen with
  | [y0, y1], _, [v0, v1], _ =>
    have c2 : Tryz.prog.cellsOf 35 = 1 := by kernel_rfl
    have g0 := hf 0 _ rfl
    have g1 := hf 1 _ rfl
    simp [c2] at g0 g1
    obtain ⟨a0, e0, _⟩ := DataW.trod_int Tryz.underlying35 g0
    obtain ⟨a1, e1, _⟩ := DataW.trod_int Tryz.underlying35 g1
    simp only [List.cons.injEq, and_true] at e0 e1
    subst e0 e1
    refine ⟨(a0, a1), trivial, fun j hj => ?_⟩
    match j, hj with
    | 0, _ => rfl
    | 1, _ => rfl
/-- a queue of a row that came in -/
def QeIn (w : World) (x : Qe) : Prop := Sm 2 encC (0, 0) w 0 w.heap.size x.A x.n x.l ∧ x.n ≤ x.c ∧ 0 ≤ x.o ∧ x.o ≤ 18446744073709551615
set_option maxRecDepth 100000 in
theorem open_qe_el {n : Nat} {cs : List Value} {y : DataW H × List MemPlace} (h : DataW.trod enc Tryz.prog w base spare held n 58 cs = some y) : ∃ x : Qe, QeIn w x ∧ ∀ j, j < 2 → cs[j]? = some (encQ x j) := by
  obtain ⟨xs, k, _, _, hlen, hl, hf⟩ := DataW.trod_struct Tryz.underlying58 h
  rw [show Tryz.prog.cellsOf 58 = 2 by kernel_rfl] at hlen
  match xs, hl, cs, hlen with
  | [y0, y1], _, [v0, v1], _ =>
    have c1 : Tryz.prog.cellsOf 56 = 1 := by kernel_rfl
    have c2 : Tryz.prog.cellsOf 35 = 1 := by kernel_rfl
    have h0 := hf 0 _ rfl
    have h1 := hf 1 _ rfl
    simp [c1, c2] at h0 h1
    obtain ⟨A, n, c, xs, rfl, h3, h4, h5, _⟩ := open_sm Tryz.underlying56 (sz := 2) (by kernel_rfl) (by omega) encC (0, 0) _ (fun n cs' y => open_cb_el) h0
    obtain ⟨o, e1, _, k1⟩ := DataW.trod_int Tryz.underlying35 h1
    simp only [List.cons.injEq, and_true] at e1
    subst e1
    refine ⟨⟨xs, o, A, n, c⟩, ⟨h5, h3, (u64_wf k1).1, (u64_wf k1).2⟩, fun j hj => ?_⟩
    match j, hj with
    | 0, _ => rfl
    | 1, _ => rfl
theorem array8_ {α : Type} {cs : Array α} (h : cs.size = 8) : ∃ c0 c1 c2 c3 c4 c5 c6 c7, cs = #[c0, c1, c2, c3, c4, c5, c6, c7] := by
  obtain ⟨l⟩ := cs
  match l, h with
  | [c0, c1, c2, c3, c4, c5, c6, c7], _ => exact ⟨c0, c1, c2, c3, c4, c5, c6, c7, rfl⟩
set_option maxRecDepth 100000 in
theorem open_rcu {r : Reach} {b0 : Nat} {v : Value} {d : DataW H} {p : List MemPlace}
    (hv : Value.okWide Tryz.prog w r b0 30 v) (h : DataW.Trod enc Tryz.prog w base spare held 30 v d p) :
    ∃ (s : St) (g : Gr) (es : List Qe) (a : Ra), v = rcv s g a ∧ RcIn w s g es a := by
  obtain ⟨cs, rfl, hsz⟩ := okWide_struct Tryz.underlying30 hv
  obtain ⟨c0, c1, c2, c3, c4, c5, c6, c7, rfl⟩ := array8_ (hsz.trans (by kernel_rfl))
  obtain ⟨fuel, hf⟩ := h
  obtain ⟨zs, n, _, _, _, hlen, hff⟩ := DataW.trod_struct Tryz.underlying30 hf
  match zs, hlen with
  | [y0, y1, y2], _ =>
    have k1 : Tryz.prog.cellsOf 24 = 3 := by kernel_rfl
    have k2 : Tryz.prog.cellsOf 27 = 4 := by kernel_rfl
    have k3 : Tryz.prog.cellsOf 28 = 1 := by kernel_rfl
    have h0 := hff 0 _ rfl
    have h1 := hff 1 _ rfl
    have h2 := hff 2 _ rfl
    simp [k1, k2, k3, Value.cells] at h0 h1 h2
    obtain ⟨now, A, n, c, B, m, d, xs, ys, e1, g1, g2, g3, g4⟩ := open_readers_el h0
    obtain ⟨g, D, kd, e2, g5, g6, g7⟩ := open_grace_el h1
    obtain ⟨Q, nq, kq, es, rfl, g8, _, g9, g10⟩ := open_sm Tryz.underlying28 (sz := 2) (by kernel_rfl) (by omega) encQ zQe (QeIn w) (fun n cs' y => open_qe_el) h2
    simp only [List.cons.injEq, and_true] at e1 e2
    obtain ⟨rfl, rfl, rfl⟩ := e1
    obtain ⟨rfl, rfl, rfl, rfl⟩ := e2
    exact ⟨(now, xs, ys), g, es, ⟨A, n, c, B, m, d, D, kd, Q, nq, kq⟩, rfl, ⟨g3, g1, g4, g2, g6, g5, g7, g9, g8, g10⟩⟩
def OpOk (x : Int × Int × Int) : Prop := (-9223372036854775808 ≤ x.1 ∧ x.1 ≤ 9223372036854775807) ∧ (-9223372036854775808 ≤ x.2.1 ∧ x.2.1 ≤ 9223372036854775807) ∧ (0 ≤ x.2.2 ∧ x.2.2 ≤ 18446744073709551615)
end
end Go.Proofs.YtfipdoofgbjbjaaGreat
