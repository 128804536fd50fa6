/- Walks and plain laws for this claim, part 2. No condition but sizes. -/
import Derived.Test.YtfipdoofgbjbjaaGreatProg
import Derived.Test.YtfipdoofgbjbjaaGreatM1
import Derived.Defers
import Derived.Recover
import Derived.Deep.RegionHeld
import Derived.Deep.DeepCutAuto
import Derived.Deep.CutBlock
import Derived.Shelf.Abstract
import Derived.Laws.EntriesVeiled
/- Graces, plainly. No condition. -/
namespace Go.Proofs.YtfipdoofgbjbjaaGreat
/-- a grace: who is needed, what is over, what is asked for, whether one is on -/
structure Gr where
  nd : List Bool
  dn : Int
  ak : Int
  on : Bool
def gIdle (nd : List Bool) : Bool := nd.all (fun b => !b)
def gNext (g : Gr) : Int := g.dn + (if g.on then 2 else 1)
def GrOk (g : Gr) : Prop := 1 ≤ g.nd.length ∧ g.nd.length ≤ 8 ∧ 0 ≤ g.dn ∧ g.dn + (if g.on then 1 else 0) ≤ g.ak ∧ g.ak ≤ gNext g ∧ g.ak ≤ 2147483645 ∧ g.on = !gIdle g.nd
def zGr : Gr := ⟨[], 0, 0, false⟩
def gAsk (g : Gr) : Gr := { g with ak := max g.ak (gNext g) }
def gBegin (g : Gr) : Gr := { g with nd := List.replicate g.nd.length true, on := true }
def gReport (g : Gr) (k : Nat) : Gr := if gIdle (g.nd.set k false) then ⟨g.nd.set k false, g.dn + 1, g.ak, false⟩ else { g with nd := g.nd.set k false }
def gPick (g : Gr) (k : Nat) (q : Bool) : Gr := if g.on && q then gReport g k else if !g.on && decide (g.dn < g.ak) then gBegin g else g
theorem gIdle_iff (nd : List Bool) : gIdle nd = true ↔ ∀ k : Nat, nd[k]?.getD false = false := by
  unfold gIdle
  rw [List.all_eq_true]
  constructor
  · intro h k
    rcases Nat.lt_or_ge k nd.length with hk | hk
    · have := h nd[k] (List.getElem_mem hk)
      rw [List.getElem?_eq_getElem hk]; simpa using this
    · rw [List.getElem?_eq_none hk]; rfl
  · intro h x hx
    obtain ⟨k, hk, rfl⟩ := List.mem_iff_getElem.1 hx
    have := h k
    rw [List.getElem?_eq_getElem hk] at this
    simpa using this
theorem gIdle_rep {n : Nat} (h : 1 ≤ n) : gIdle (List.replicate n true) = false := by
  cases n with
  | zero => omega
  | succ n => simp [gIdle, List.replicate_succ]
theorem gAsk_ok {g : Gr} (h : GrOk g) (hn : gNext g ≤ 2147483645) : GrOk (gAsk g) := by
  obtain ⟨h1, h2, h3, h4, h5, h6, h7⟩ := h
  have e : gNext (gAsk g) = gNext g := rfl
  refine ⟨h1, h2, h3, ?_, ?_, ?_, h7⟩
  · show g.dn + _ ≤ max g.ak (gNext g)
    have : (gAsk g).on = g.on := rfl
    rw [this]; omega
  · rw [e]; show max g.ak (gNext g) ≤ _; omega
  · show max g.ak (gNext g) ≤ _; omega
theorem gBegin_ok {g : Gr} (h : GrOk g) (hf : g.on = false) (hl : g.dn < g.ak) : GrOk (gBegin g) := by
  obtain ⟨h1, h2, h3, h4, h5, h6, h7⟩ := h
  have e : gNext g = g.dn + 1 := by unfold gNext; rw [hf]; rfl
  refine ⟨by show 1 ≤ (List.replicate _ _).length; simpa using h1, by show (List.replicate _ _).length ≤ 8; simpa using h2, h3, ?_, ?_, h6, ?_⟩
  · show g.dn + 1 ≤ g.ak; omega
  · show g.ak ≤ g.dn + 2; omega
  · show true = !gIdle (List.replicate g.nd.length true)
    rw [gIdle_rep h1]; rfl
theorem gReport_ok {g : Gr} (h : GrOk g) (ht : g.on = true) (k : Nat) : GrOk (gReport g k) := by
  obtain ⟨h1, h2, h3, h4, h5, h6, h7⟩ := h
  have e : gNext g = g.dn + 2 := by unfold gNext; rw [ht]; rfl
  rw [ht] at h4
  unfold gReport
  split
  · rename_i hi
    refine ⟨by show 1 ≤ (g.nd.set k false).length; simpa using h1, by show (g.nd.set k false).length ≤ 8; simpa using h2, by show 0 ≤ g.dn + 1; omega, ?_, ?_, h6, ?_⟩
    · show g.dn + 1 + 0 ≤ g.ak; simp only [if_true] at h4; omega
    · show g.ak ≤ g.dn + 1 + 1; omega
    · show false = !gIdle (g.nd.set k false); rw [hi]; rfl
  · rename_i hi
    refine ⟨by show 1 ≤ (g.nd.set k false).length; simpa using h1, by show (g.nd.set k false).length ≤ 8; simpa using h2, h3, ?_, h5, h6, ?_⟩
    · show g.dn + (if g.on then 1 else 0) ≤ g.ak; rw [ht]; exact h4
    · show g.on = !gIdle (g.nd.set k false)
      rw [ht]; simpa using hi
theorem gPick_ok {g : Gr} (h : GrOk g) (k : Nat) (q : Bool) : GrOk (gPick g k q) := by
  unfold gPick
  split
  · rename_i h1; exact gReport_ok h (by simp at h1; exact h1.1) k
  · split
    · rename_i h1; simp at h1; exact gBegin_ok h h1.1 h1.2
    · exact h
theorem gPick_len (g : Gr) (k : Nat) (q : Bool) : (gPick g k q).nd.length = g.nd.length := by
  unfold gPick gReport gBegin
  split
  · split <;> simp
  · split <;> simp
end Go.Proofs.YtfipdoofgbjbjaaGreat

/- package grace: need, idle, next, Check, Over, New. No condition but sizes. -/
namespace Go.Proofs.YtfipdoofgbjbjaaGreat
open Go.RowKit
/-- the panic by which one leaves -/
def leaves (e : Int) : Ending := .panicked [{ v := .iface 39 (.int .i64 e), recovered := false }]
theorem need_yes (e : Int) (w : World) : Calls Tryz.prog 144 #[.bool true, .int .i64 e] w fun x w' => x = .returned (.tuple #[]) ∧ w' = w := by
  go_enter Tryz.func144, Tryz.ntmps144
  go_wp2
  go_end0
  exact ⟨rfl, rfl⟩
theorem need_no (e : Int) (w : World) : Calls Tryz.prog 144 #[.bool false, .int .i64 e] w fun x w' => x = leaves e ∧ w' = w := by
  go_enter Tryz.func144, Tryz.ntmps144
  go_wp2
  exact ⟨rfl, rfl, rfl⟩
/-- a grace, as a value -/
@[reducible] def gv (g : Gr) (D : Option Addr) (k e : Nat) : Value := .agg #[.int .i64 g.dn, .int .i64 g.ak, .bool g.on, .slice D k e]
@[reducible] def gcs (g : Gr) (D : Option Addr) (k e : Nat) : Array Value := #[.int .i64 g.dn, .int .i64 g.ak, .bool g.on, .slice D k e]
def nextW (g : Gr) : Int := if g.on = true then wrap64 (wrap64 (g.dn + 1) + 1) else wrap64 (g.dn + 1)
def leastW (g : Gr) : Int := if g.on = true then wrap64 (g.dn + 1) else g.dn
def GrW (g : Gr) : Prop := (1 ≤ g.nd.length ∧ g.nd.length ≤ 8) ∧ 0 ≤ g.dn ∧ leastW g ≤ g.ak ∧ g.ak ≤ nextW g ∧ g.ak ≤ 2147483645 ∧ g.on ≠ gIdle g.nd
instance {g : Gr} : Decidable (GrW g) := by unfold GrW; infer_instance
def gchkC (g : Gr) : Int := if GrW g then 0 else 220
theorem GrOk.small {g : Gr} (h : GrOk g) : g.dn ≤ 2147483645 ∧ 0 ≤ g.dn := by
  obtain ⟨h1, h2, h3, h4, h5, h6, h7⟩ := h
  constructor
  · cases ho : g.on <;> rw [ho] at h4 <;> simp at h4 <;> omega
  · exact h3
theorem nextW_ok {g : Gr} (h : GrOk g) : nextW g = gNext g := by
  have hs := h.small
  unfold nextW gNext
  cases g.on
  · simp only [Bool.false_eq_true, if_false]; unfold wrap64; omega
  · simp only [if_true]; unfold wrap64; omega
theorem GrOk.w {g : Gr} (h : GrOk g) : GrW g := by
  have hs := h.small
  have hn := nextW_ok h
  obtain ⟨h1, h2, h3, h4, h5, h6, h7⟩ := h
  refine ⟨⟨h1, h2⟩, h3, ?_, by rw [hn]; exact h5, h6, by rw [h7]; cases gIdle g.nd <;> decide⟩
  unfold leastW
  cases ho : g.on <;> rw [ho] at h4 <;> simp at h4 ⊢
  · exact h4
  · unfold wrap64; omega
theorem gchk_ok {g : Gr} (h : GrOk g) : gchkC g = 0 := if_pos h.w
theorem idle1_any (b : Bool) (w : World) : Calls Tryz.prog 131 #[.bool b] w fun e w' => e = .returned (.bool b) ∧ w' = w := by
  go_enter Tryz.func131, Tryz.ntmps131
  go_wp2
  go_ret
  exact ⟨rfl, rfl⟩
set_option maxHeartbeats 1000000 in
theorem ixidle_any (A : Option Addr) (n k lo hi : Nat) (xs : List Bool) (w : World) (h : Sl blv false w lo hi A n xs) (hn : n ≤ 1000000) :
    Calls Tryz.prog 156 #[.slice A n k, .func (.func 131) #[] #[]] w fun e w' => (∃ v, e = .returned (.int .i64 v) ∧ decide (0 ≤ v) = !gIdle xs) ∧ w = w' := by
  have eg := enters_of Tryz.func131 (by kernel_rfl) rfl
  have HR := hid h
  have hl := hid h.len
  clear h
  go_enter Tryz.func156, Tryz.ntmps156
  go_wp2_with fail
  go_loopw [5, 8] (fun _ i wr => wr = w ∧ ∃ j : Nat, j ≤ n ∧ i = .int .i64 j ∧ ∀ k, k < j → xs[k]?.getD false = false) (fun _ i _ => n - (intOf i).toNat)
  case atStart => exact ⟨rfl, 0, Nat.zero_le _, rfl, fun k hk => absurd hk (Nat.not_lt_zero _)⟩
  case round =>
    obtain ⟨rfl, j, hj, rfl, hall⟩ := hrel
    have HA := hid hall
    clear hall
    by_cases hjn : j < n
    · obtain ⟨b, off, rfl, _, hbh, hc⟩ := HR.out.row (by omega)
      obtain ⟨x, hx⟩ : ∃ x, x = xs[j]?.getD false := ⟨_, rfl⟩
      have f0 := hc j hjn
      rw [← hx] at f0
      simp only [blv] at f0
      have HX := hid hx
      have hji : (j : Int) < (n : Int) := by omega
      clear hx hc
      go_wp2_with fail
      clear f0
      refine (idle1_any x wr).mono ?_
      rintro e w1 ⟨rfl, rfl⟩
      rcases x with _ | _
      · go_wp2
        go_roundw
        case rel => exact ⟨by trivial, j + 1, by omega, by go_num, fun k hk => by
          rcases Nat.lt_or_ge k j with h | h
          · exact HA.out k h
          · obtain rfl : k = j := by omega
            exact HX.out.symm⟩
        case measure => simp [intOf]; omega
      · have HQ := hid (show gIdle xs = false from Bool.eq_false_iff.2 (fun h => by have := (gIdle_iff xs).1 h j; rw [← HX.out] at this; cases this))
        go_wp2
        go_ret
        exact ⟨⟨_, rfl, by rw [HQ.out]; simp⟩, rfl⟩
    · obtain rfl : j = n := by omega
      have HQ := hid (show gIdle xs = true from (gIdle_iff xs).2 fun k => by
        rcases Nat.lt_or_ge k j with h | h
        · exact HA.out k h
        · rw [List.getElem?_eq_none (by rw [hl.out]; exact h)]; rfl)
      have hnn : ¬ ((j : Int) < (j : Int)) := by omega
      go_wp2
      go_ret
      exact ⟨⟨_, rfl, by rw [HQ.out]; simp⟩, rfl⟩
theorem idle_any (g : Gr) (D : Option Addr) (k e lo : Nat) (w : World) (h : Sl blv false w lo w.heap.size D k g.nd) (hk : k ≤ 1000000) :
    Calls Tryz.prog 97 #[gv g D k e] w fun x w' => x = .returned (.bool (gIdle g.nd)) ∧ Below w.heap.size w w' := by
  have HR := hid (h.step (below_box w (.cells (gcs g D k e) 27)))
  have P := hid (Blk.new w 27 (gcs g D k e))
  have HB := hid (below_box w (.cells (gcs g D k e) 27))
  obtain ⟨y0, y1, y2, y3, yf⟩ := P.out.cells4
  clear h
  go_enter Tryz.func97, Tryz.ntmps97
  go_wp2_with fail
  clear y0 y1 y2 y3 yf P
  go_enter Tryz.func130, Tryz.ntmps130
  go_wp2_with fail
  go_enter Tryz.func149, Tryz.ntmps149
  go_wp2_with fail
  refine (ixidle_any D k e lo _ g.nd _ HR.out hk).mono ?_
  rintro x w' ⟨⟨v, rfl, hv⟩, rfl⟩
  have E := hid (show (!decide (0 ≤ v)) = gIdle g.nd by rw [hv, Bool.not_not])
  clear hv
  go_wp2
  go_ret
  exact ⟨ret_bool E.out, HB.out⟩
theorem next_any (g : Gr) (D : Option Addr) (k e : Nat) (w : World) : Calls Tryz.prog 96 #[gv g D k e] w fun x w' => x = .returned (.int .i64 (nextW g)) ∧ Below w.heap.size w w' := by
  obtain ⟨nd, dn, ak, on⟩ := g
  have P := hid (Blk.new w 27 #[.int .i64 dn, .int .i64 ak, .bool on, .slice D k e])
  have HB := hid (below_box w (.cells #[.int .i64 dn, .int .i64 ak, .bool on, .slice D k e] 27))
  rcases on with _ | _
  · have E2 := hid (show nextW ⟨nd, dn, ak, false⟩ = wrap64 (dn + 1) from rfl)
    obtain ⟨y0, y1, y2, y3, yf⟩ := P.out.cells4
    rw [E2.out]
    clear E2
    go_enter Tryz.func96, Tryz.ntmps96
    go_wp2
    go_ret
    exact ⟨rfl, HB.out⟩
  · have E2 := hid (show nextW ⟨nd, dn, ak, true⟩ = wrap64 (wrap64 (dn + 1) + 1) from rfl)
    obtain ⟨y0, y1, y2, y3, yf⟩ := P.out.cells4
    rw [E2.out]
    clear E2
    go_enter Tryz.func96, Tryz.ntmps96
    go_wp2
    go_ret
    exact ⟨rfl, HB.out⟩
def GrQ (k : Nat) (dn ak L N : Int) (on I : Bool) : Prop := (1 ≤ k ∧ k ≤ 8) ∧ 0 ≤ dn ∧ L ≤ ak ∧ ak ≤ N ∧ ak ≤ 2147483645 ∧ on ≠ I
set_option maxRecDepth 100000 in
set_option maxHeartbeats 8000000 in
theorem gcheck_any (g : Gr) (D : Option Addr) (k e lo : Nat) (w : World) (h : Sl blv false w lo w.heap.size D k g.nd) (hk : k ≤ 1000000) :
    Calls Tryz.prog 59 #[gv g D k e] w fun x w' => x = .returned (.int .i64 (gchkC g)) ∧ Below w.heap.size w w' := by
  obtain ⟨nd, dn, ak, on⟩ := g
  have HR := hid h; have hl := hid (show nd.length = k from h.len); have HB := hid (Below.refl w.heap.size w)
  clear h
  obtain ⟨L, hL⟩ : ∃ x, x = leastW ⟨nd, dn, ak, on⟩ := ⟨_, rfl⟩
  have HLE := hid (show L = if on = true then wrap64 (dn + 1) else dn by rw [hL]; rfl)
  obtain ⟨N, hN⟩ : ∃ x, x = nextW ⟨nd, dn, ak, on⟩ := ⟨_, rfl⟩
  have HN := hid hN
  obtain ⟨I, hI⟩ : ∃ x, x = gIdle nd := ⟨_, rfl⟩
  have HI := hid hI
  have HGY : Hid (GrQ k dn ak L N on I → gchkC ⟨nd, dn, ak, on⟩ = 0) := hid (fun hq => if_pos (by unfold GrQ at hq; unfold GrW; rw [← hL, ← hN, ← hI, hl.out]; exact hq))
  have HGN : Hid (¬ GrQ k dn ak L N on I → gchkC ⟨nd, dn, ak, on⟩ = 220) := hid (fun hq => if_neg (fun hw => hq (by unfold GrW at hw; rw [← hL, ← hN, ← hI, hl.out] at hw; exact hw)))
  clear hL hN hI
  have bx := below_box w (.cells #[.int .i64 dn, .int .i64 ak, .bool on, .slice D k e] 27)
  replace HR := hid (HR.out.step bx); replace HB := hid (below_then HB.out bx)
  clear bx
  have P := hid (Blk.new w 27 #[.int .i64 dn, .int .i64 ak, .bool on, .slice D k e])
  obtain ⟨y00, y01, y02, y03, yf0⟩ := P.out.cells4
  go_enter Tryz.func59, Tryz.ntmps59
  have k1 : decide ((1 : Int) ≤ (k : Int)) = decide (1 ≤ k) := by rw [decide_eq_decide]; omega
  have k2 : decide ((k : Int) ≥ 1) = decide (1 ≤ k) := by rw [decide_eq_decide]; omega
  have k3 : decide ((k : Int) ≤ 8) = decide (k ≤ 8) := by rw [decide_eq_decide]; omega
  by_cases c1 : 1 ≤ k ∧ k ≤ 8
  · skip
    have d1 : decide (1 ≤ k) = true := decide_eq_true c1.1
    have d2 : decide (k ≤ 8) = true := decide_eq_true c1.2
    have C1 := hid c1
    rcases on with _ | _
    · have HL2 := hid (show L = dn from HLE.out)
      go_upto_region 5 with fail
      generalize w.alloc (.cells #[.int .i64 dn, .int .i64 ak, .bool false, .slice D k e] 27) = W0 at *
      clear k1 k2 k3
      skip
      by_cases c2 : dn < 0
      · have e0 : decide (dn < 0) = true := decide_eq_true c2
        have E2 := hid (show gchkC ⟨nd, dn, ak, false⟩ = 220 from HGN.out (fun h => by unfold GrQ at h; have := HL2.out; omega))
        clear c2
        have bx := (Below.refl W0.heap.size W0).drew
        replace HR := hid (HR.out.step bx); replace P := hid (P.out.step bx); replace HB := hid (below_then HB.out bx)
        clear bx
        have hszd := hid (show W0.drew.heap.size = W0.heap.size from rfl)
        refine wp_region_noPanic ?_
        refine wp_region_held_drew (S := (fun W' : World => W'.cell? ⟨w.heap.size, 0, none⟩ = some (.int .i64 dn) ∧ W'.cell? ⟨w.heap.size, 1, none⟩ = some (.int .i64 ak) ∧ W'.cell? ⟨w.heap.size, 2, none⟩ = some (.bool false) ∧ W'.cell? ⟨w.heap.size, 3, none⟩ = some (.slice D k e))) (by kernel_rfl) ⟨P.out.cells4.1, P.out.cells4.2.1, P.out.cells4.2.2.1, P.out.cells4.2.2.2.1⟩ (fun hS => ?_)
        generalize W0.drew = Wd at *
        refine tk 0 hS ?_
        refine tk 1 hS ?_
        refine tk 2 hS ?_
        refine tk 3 hS ?_
        refine tk 4 hS ?_
        refine tk 5 hS ?_
        refine tk 6 hS ?_
        refine tk 7 hS ?_
        refine tku 8 hS ?_
        refine tku 9 hS ?_
        refine tku 10 hS ?_
        refine tku 11 hS ?_
        refine tk 12 hS ?_
        refine tk 13 hS ?_
        refine tku 14 hS ?_
        refine tku 15 hS ?_
        refine tku 16 hS ?_
        refine tku 17 hS ?_
        refine tku 18 hS ?_
        refine tk 19 hS ?_
        refine tk 20 hS ?_
        refine tku 21 hS ?_
        refine tku 22 hS ?_
        refine tku 23 hS ?_
        refine tk 24 hS ?_
        refine tk 25 hS ?_
        refine tku 26 hS ?_
        refine tku 27 hS ?_
        refine tku 28 hS ?_
        refine tku 29 hS ?_
        refine tku 30 hS ?_
        refine tk 31 hS ?_
        refine wpAnyH_done (by kernel_rfl) ?_ _
        refine NoPanic.normal ?_
        clear hS
        go_wp2
        go_ret
        exact ⟨ret_int E2.out.symm, HB.out⟩
      have e0 : decide (dn < 0) = false := decide_eq_false c2
      by_cases c3 : ak < dn
      · have e1 : decide (ak < dn) = true := decide_eq_true c3
        have E2 := hid (show gchkC ⟨nd, dn, ak, false⟩ = 220 from HGN.out (fun h => by unfold GrQ at h; have := HL2.out; omega))
        clear c2 c3
        have bx := (Below.refl W0.heap.size W0).drew
        replace HR := hid (HR.out.step bx); replace P := hid (P.out.step bx); replace HB := hid (below_then HB.out bx)
        clear bx
        have hszd := hid (show W0.drew.heap.size = W0.heap.size from rfl)
        refine wp_region_noPanic ?_
        refine wp_region_held_drew (S := (fun W' : World => W'.cell? ⟨w.heap.size, 0, none⟩ = some (.int .i64 dn) ∧ W'.cell? ⟨w.heap.size, 1, none⟩ = some (.int .i64 ak) ∧ W'.cell? ⟨w.heap.size, 2, none⟩ = some (.bool false) ∧ W'.cell? ⟨w.heap.size, 3, none⟩ = some (.slice D k e))) (by kernel_rfl) ⟨P.out.cells4.1, P.out.cells4.2.1, P.out.cells4.2.2.1, P.out.cells4.2.2.2.1⟩ (fun hS => ?_)
        generalize W0.drew = Wd at *
        refine tk 0 hS ?_
        refine tk 1 hS ?_
        refine tk 2 hS ?_
        refine tk 3 hS ?_
        refine tk 4 hS ?_
        refine tk 5 hS ?_
        refine tk 6 hS ?_
        refine tk 7 hS ?_
        refine tk 8 hS ?_
        refine tk 9 hS ?_
        refine tk 10 hS ?_
        refine tk 11 hS ?_
        refine tk 12 hS ?_
        refine tk 13 hS ?_
        refine tku 14 hS ?_
        refine tku 15 hS ?_
        refine tku 16 hS ?_
        refine tku 17 hS ?_
        refine tku 18 hS ?_
        refine tk 19 hS ?_
        refine tk 20 hS ?_
        refine tku 21 hS ?_
        refine tku 22 hS ?_
        refine tku 23 hS ?_
        refine tk 24 hS ?_
        refine tk 25 hS ?_
        refine tku 26 hS ?_
        refine tku 27 hS ?_
        refine tku 28 hS ?_
        refine tku 29 hS ?_
        refine tku 30 hS ?_
        refine tk 31 hS ?_
        refine wpAnyH_done (by kernel_rfl) ?_ _
        refine NoPanic.normal ?_
        clear hS
        go_wp2
        go_ret
        exact ⟨ret_int E2.out.symm, HB.out⟩
      have e1 : decide (ak < dn) = false := decide_eq_false c3
      by_cases c4 : N < ak
      · have e2 : decide (N < ak) = true := decide_eq_true c4
        have E2 := hid (show gchkC ⟨nd, dn, ak, false⟩ = 220 from HGN.out (fun h => by unfold GrQ at h; have := HL2.out; omega))
        clear c2 c3 c4
        have bx := (Below.refl W0.heap.size W0).drew
        replace HR := hid (HR.out.step bx); replace P := hid (P.out.step bx); replace HB := hid (below_then HB.out bx)
        clear bx
        have hszd := hid (show W0.drew.heap.size = W0.heap.size from rfl)
        refine wp_region_noPanic ?_
        refine wp_region_held_drew (S := (fun W' : World => W'.cell? ⟨w.heap.size, 0, none⟩ = some (.int .i64 dn) ∧ W'.cell? ⟨w.heap.size, 1, none⟩ = some (.int .i64 ak) ∧ W'.cell? ⟨w.heap.size, 2, none⟩ = some (.bool false) ∧ W'.cell? ⟨w.heap.size, 3, none⟩ = some (.slice D k e))) (by kernel_rfl) ⟨P.out.cells4.1, P.out.cells4.2.1, P.out.cells4.2.2.1, P.out.cells4.2.2.2.1⟩ (fun hS => ?_)
        generalize W0.drew = Wd at *
        refine tk 0 hS ?_
        refine tk 1 hS ?_
        refine tk 2 hS ?_
        refine tk 3 hS ?_
        refine tk 4 hS ?_
        refine tk 5 hS ?_
        refine tk 6 hS ?_
        refine tk 7 hS ?_
        refine tk 8 hS ?_
        refine tk 9 hS ?_
        refine tk 10 hS ?_
        refine tk 11 hS ?_
        refine tk 12 hS ?_
        refine tk 13 hS ?_
        refine tk 14 hS ?_
        refine tk 15 hS ?_
        refine tk 16 hS ?_
        refine rdy [17] (csy (fun K hK => ?_) AllReadyH.nil)
        go_simp
        refine (next_any ⟨nd, dn, ak, false⟩ D k e _).mono ?_
        rintro e w17 ⟨rfl, hb⟩
        have hsz0 := hid (show Wd.heap.size ≤ w17.heap.size from hb.size)
        replace HR := hid (HR.out.step hb); replace P := hid (P.out.step hb); replace HB := hid (below_then HB.out hb)
        clear hb
        rw [← HN.out]
        go_wp2_with fail
        clear hS
        refine ky hK ⟨P.out.cells4.1, P.out.cells4.2.1, P.out.cells4.2.2.1, P.out.cells4.2.2.2.1⟩ fun hS => ?_
        clear hK K
        refine tk 18 hS ?_
        refine tk 19 hS ?_
        refine tk 20 hS ?_
        refine tku 21 hS ?_
        refine tku 22 hS ?_
        refine tku 23 hS ?_
        refine tk 24 hS ?_
        refine tk 25 hS ?_
        refine tku 26 hS ?_
        refine tku 27 hS ?_
        refine tku 28 hS ?_
        refine tku 29 hS ?_
        refine tku 30 hS ?_
        refine tk 31 hS ?_
        refine wpAnyH_done (by kernel_rfl) ?_ _
        refine NoPanic.normal ?_
        clear hS
        go_wp2
        go_ret
        exact ⟨ret_int E2.out.symm, HB.out⟩
      have e2 : decide (N < ak) = false := decide_eq_false c4
      by_cases c5 : 2147483645 < ak
      · have e3 : decide (2147483645 < ak) = true := decide_eq_true c5
        have E2 := hid (show gchkC ⟨nd, dn, ak, false⟩ = 220 from HGN.out (fun h => by unfold GrQ at h; have := HL2.out; omega))
        clear c2 c3 c4 c5
        have bx := (Below.refl W0.heap.size W0).drew
        replace HR := hid (HR.out.step bx); replace P := hid (P.out.step bx); replace HB := hid (below_then HB.out bx)
        clear bx
        have hszd := hid (show W0.drew.heap.size = W0.heap.size from rfl)
        refine wp_region_noPanic ?_
        refine wp_region_held_drew (S := (fun W' : World => W'.cell? ⟨w.heap.size, 0, none⟩ = some (.int .i64 dn) ∧ W'.cell? ⟨w.heap.size, 1, none⟩ = some (.int .i64 ak) ∧ W'.cell? ⟨w.heap.size, 2, none⟩ = some (.bool false) ∧ W'.cell? ⟨w.heap.size, 3, none⟩ = some (.slice D k e))) (by kernel_rfl) ⟨P.out.cells4.1, P.out.cells4.2.1, P.out.cells4.2.2.1, P.out.cells4.2.2.2.1⟩ (fun hS => ?_)
        generalize W0.drew = Wd at *
        refine tk 0 hS ?_
        refine tk 1 hS ?_
        refine tk 2 hS ?_
        refine tk 3 hS ?_
        refine tk 4 hS ?_
        refine tk 5 hS ?_
        refine tk 6 hS ?_
        refine tk 7 hS ?_
        refine tk 8 hS ?_
        refine tk 9 hS ?_
        refine tk 10 hS ?_
        refine tk 11 hS ?_
        refine tk 12 hS ?_
        refine tk 13 hS ?_
        refine tk 14 hS ?_
        refine tk 15 hS ?_
        refine tk 16 hS ?_
        refine rdy [17] (csy (fun K hK => ?_) AllReadyH.nil)
        go_simp
        refine (next_any ⟨nd, dn, ak, false⟩ D k e _).mono ?_
        rintro e w17 ⟨rfl, hb⟩
        have hsz0 := hid (show Wd.heap.size ≤ w17.heap.size from hb.size)
        replace HR := hid (HR.out.step hb); replace P := hid (P.out.step hb); replace HB := hid (below_then HB.out hb)
        clear hb
        rw [← HN.out]
        go_wp2_with fail
        clear hS
        refine ky hK ⟨P.out.cells4.1, P.out.cells4.2.1, P.out.cells4.2.2.1, P.out.cells4.2.2.2.1⟩ fun hS => ?_
        clear hK K
        refine tk 18 hS ?_
        refine tk 19 hS ?_
        refine tk 20 hS ?_
        refine tk 21 hS ?_
        refine tk 22 hS ?_
        refine tk 23 hS ?_
        refine tk 24 hS ?_
        refine tk 25 hS ?_
        refine tku 26 hS ?_
        refine tku 27 hS ?_
        refine tku 28 hS ?_
        refine tku 29 hS ?_
        refine tku 30 hS ?_
        refine tk 31 hS ?_
        refine wpAnyH_done (by kernel_rfl) ?_ _
        refine NoPanic.normal ?_
        clear hS
        go_wp2
        go_ret
        exact ⟨ret_int E2.out.symm, HB.out⟩
      have e3 : decide (2147483645 < ak) = false := decide_eq_false c5
      rcases I with _ | _
      · skip
        have E2 := hid (show gchkC ⟨nd, dn, ak, false⟩ = 220 from HGN.out (fun h => h.2.2.2.2.2 rfl))
        clear c2 c3 c4 c5
        have bx := (Below.refl W0.heap.size W0).drew
        replace HR := hid (HR.out.step bx); replace P := hid (P.out.step bx); replace HB := hid (below_then HB.out bx)
        clear bx
        have hszd := hid (show W0.drew.heap.size = W0.heap.size from rfl)
        refine wp_region_noPanic ?_
        refine wp_region_held_drew (S := (fun W' : World => W'.cell? ⟨w.heap.size, 0, none⟩ = some (.int .i64 dn) ∧ W'.cell? ⟨w.heap.size, 1, none⟩ = some (.int .i64 ak) ∧ W'.cell? ⟨w.heap.size, 2, none⟩ = some (.bool false) ∧ W'.cell? ⟨w.heap.size, 3, none⟩ = some (.slice D k e))) (by kernel_rfl) ⟨P.out.cells4.1, P.out.cells4.2.1, P.out.cells4.2.2.1, P.out.cells4.2.2.2.1⟩ (fun hS => ?_)
        generalize W0.drew = Wd at *
        refine tk 0 hS ?_
        refine tk 1 hS ?_
        refine tk 2 hS ?_
        refine tk 3 hS ?_
        refine tk 4 hS ?_
        refine tk 5 hS ?_
        refine tk 6 hS ?_
        refine tk 7 hS ?_
        refine tk 8 hS ?_
        refine tk 9 hS ?_
        refine tk 10 hS ?_
        refine tk 11 hS ?_
        refine tk 12 hS ?_
        refine tk 13 hS ?_
        refine tk 14 hS ?_
        refine tk 15 hS ?_
        refine tk 16 hS ?_
        refine rdy [17] (csy (fun K hK => ?_) AllReadyH.nil)
        go_simp
        refine (next_any ⟨nd, dn, ak, false⟩ D k e _).mono ?_
        rintro e w17 ⟨rfl, hb⟩
        have hsz0 := hid (show Wd.heap.size ≤ w17.heap.size from hb.size)
        replace HR := hid (HR.out.step hb); replace P := hid (P.out.step hb); replace HB := hid (below_then HB.out hb)
        clear hb
        rw [← HN.out]
        go_wp2_with fail
        clear hS
        refine ky hK ⟨P.out.cells4.1, P.out.cells4.2.1, P.out.cells4.2.2.1, P.out.cells4.2.2.2.1⟩ fun hS => ?_
        clear hK K
        refine tk 18 hS ?_
        refine tk 19 hS ?_
        refine tk 20 hS ?_
        refine tk 21 hS ?_
        refine tk 22 hS ?_
        refine tk 23 hS ?_
        refine tk 24 hS ?_
        refine tk 25 hS ?_
        refine tk 26 hS ?_
        refine tk 27 hS ?_
        refine tk 28 hS ?_
        refine rdy [29] (csy (fun K hK => ?_) AllReadyH.nil)
        go_simp
        refine (idle_any ⟨nd, dn, ak, false⟩ D k e lo _ HR.out hk).mono ?_
        rintro e w29 ⟨rfl, hb⟩
        have hsz1 := hid (show w17.heap.size ≤ w29.heap.size from hb.size)
        replace HR := hid (HR.out.step hb); replace P := hid (P.out.step hb); replace HB := hid (below_then HB.out hb)
        clear hb
        rw [show gIdle (Gr.nd ⟨nd, dn, ak, false⟩) = false from HI.out.symm]
        go_wp2_with fail
        clear hS
        refine ky hK ⟨P.out.cells4.1, P.out.cells4.2.1, P.out.cells4.2.2.1, P.out.cells4.2.2.2.1⟩ fun hS => ?_
        clear hK K
        refine tk 30 hS ?_
        refine tk 31 hS ?_
        refine wpAnyH_done (by kernel_rfl) ?_ _
        refine NoPanic.normal ?_
        clear hS
        go_wp2
        go_ret
        exact ⟨ret_int E2.out.symm, HB.out⟩
      · skip
        have E2 := hid (show gchkC ⟨nd, dn, ak, false⟩ = 0 from HGY.out ⟨C1.out, by omega, by have := HL2.out; omega, by omega, by omega, by decide⟩)
        clear c2 c3 c4 c5
        have bx := (Below.refl W0.heap.size W0).drew
        replace HR := hid (HR.out.step bx); replace P := hid (P.out.step bx); replace HB := hid (below_then HB.out bx)
        clear bx
        have hszd := hid (show W0.drew.heap.size = W0.heap.size from rfl)
        refine wp_region_noPanic ?_
        refine wp_region_held_drew (S := (fun W' : World => W'.cell? ⟨w.heap.size, 0, none⟩ = some (.int .i64 dn) ∧ W'.cell? ⟨w.heap.size, 1, none⟩ = some (.int .i64 ak) ∧ W'.cell? ⟨w.heap.size, 2, none⟩ = some (.bool false) ∧ W'.cell? ⟨w.heap.size, 3, none⟩ = some (.slice D k e))) (by kernel_rfl) ⟨P.out.cells4.1, P.out.cells4.2.1, P.out.cells4.2.2.1, P.out.cells4.2.2.2.1⟩ (fun hS => ?_)
        generalize W0.drew = Wd at *
        refine tk 0 hS ?_
        refine tk 1 hS ?_
        refine tk 2 hS ?_
        refine tk 3 hS ?_
        refine tk 4 hS ?_
        refine tk 5 hS ?_
        refine tk 6 hS ?_
        refine tk 7 hS ?_
        refine tk 8 hS ?_
        refine tk 9 hS ?_
        refine tk 10 hS ?_
        refine tk 11 hS ?_
        refine tk 12 hS ?_
        refine tk 13 hS ?_
        refine tk 14 hS ?_
        refine tk 15 hS ?_
        refine tk 16 hS ?_
        refine rdy [17] (csy (fun K hK => ?_) AllReadyH.nil)
        go_simp
        refine (next_any ⟨nd, dn, ak, false⟩ D k e _).mono ?_
        rintro e w17 ⟨rfl, hb⟩
        have hsz0 := hid (show Wd.heap.size ≤ w17.heap.size from hb.size)
        replace HR := hid (HR.out.step hb); replace P := hid (P.out.step hb); replace HB := hid (below_then HB.out hb)
        clear hb
        rw [← HN.out]
        go_wp2_with fail
        clear hS
        refine ky hK ⟨P.out.cells4.1, P.out.cells4.2.1, P.out.cells4.2.2.1, P.out.cells4.2.2.2.1⟩ fun hS => ?_
        clear hK K
        refine tk 18 hS ?_
        refine tk 19 hS ?_
        refine tk 20 hS ?_
        refine tk 21 hS ?_
        refine tk 22 hS ?_
        refine tk 23 hS ?_
        refine tk 24 hS ?_
        refine tk 25 hS ?_
        refine tk 26 hS ?_
        refine tk 27 hS ?_
        refine tk 28 hS ?_
        refine rdy [29] (csy (fun K hK => ?_) AllReadyH.nil)
        go_simp
        refine (idle_any ⟨nd, dn, ak, false⟩ D k e lo _ HR.out hk).mono ?_
        rintro e w29 ⟨rfl, hb⟩
        have hsz1 := hid (show w17.heap.size ≤ w29.heap.size from hb.size)
        replace HR := hid (HR.out.step hb); replace P := hid (P.out.step hb); replace HB := hid (below_then HB.out hb)
        clear hb
        rw [show gIdle (Gr.nd ⟨nd, dn, ak, false⟩) = true from HI.out.symm]
        go_wp2_with fail
        clear hS
        refine ky hK ⟨P.out.cells4.1, P.out.cells4.2.1, P.out.cells4.2.2.1, P.out.cells4.2.2.2.1⟩ fun hS => ?_
        clear hK K
        refine tk 30 hS ?_
        refine tk 31 hS ?_
        refine wpAnyH_done (by kernel_rfl) ?_ _
        refine NoPanic.normal ?_
        clear hS
        go_wp2
        go_ret
        exact ⟨ret_int E2.out.symm, HB.out⟩
    · have HL2 := hid (show L = wrap64 (dn + 1) from HLE.out)
      go_upto_region 5 with fail
      generalize w.alloc (.cells #[.int .i64 dn, .int .i64 ak, .bool true, .slice D k e] 27) = W0 at *
      clear k1 k2 k3
      skip
      by_cases c2 : dn < 0
      · have e0 : decide (dn < 0) = true := decide_eq_true c2
        have E2 := hid (show gchkC ⟨nd, dn, ak, true⟩ = 220 from HGN.out (fun h => by unfold GrQ at h; have := HL2.out; omega))
        clear c2
        have bx := (Below.refl W0.heap.size W0).drew
        replace HR := hid (HR.out.step bx); replace P := hid (P.out.step bx); replace HB := hid (below_then HB.out bx)
        clear bx
        have hszd := hid (show W0.drew.heap.size = W0.heap.size from rfl)
        refine wp_region_noPanic ?_
        refine wp_region_held_drew (S := (fun W' : World => W'.cell? ⟨w.heap.size, 0, none⟩ = some (.int .i64 dn) ∧ W'.cell? ⟨w.heap.size, 1, none⟩ = some (.int .i64 ak) ∧ W'.cell? ⟨w.heap.size, 2, none⟩ = some (.bool true) ∧ W'.cell? ⟨w.heap.size, 3, none⟩ = some (.slice D k e))) (by kernel_rfl) ⟨P.out.cells4.1, P.out.cells4.2.1, P.out.cells4.2.2.1, P.out.cells4.2.2.2.1⟩ (fun hS => ?_)
        generalize W0.drew = Wd at *
        refine tk 0 hS ?_
        refine tk 1 hS ?_
        refine tk 2 hS ?_
        refine tk 3 hS ?_
        refine tk 4 hS ?_
        refine tk 5 hS ?_
        refine tk 6 hS ?_
        refine tk 7 hS ?_
        refine tku 8 hS ?_
        refine tku 9 hS ?_
        refine tku 10 hS ?_
        refine tku 11 hS ?_
        refine tk 12 hS ?_
        refine tk 13 hS ?_
        refine tku 14 hS ?_
        refine tku 15 hS ?_
        refine tku 16 hS ?_
        refine tku 17 hS ?_
        refine tku 18 hS ?_
        refine tk 19 hS ?_
        refine tk 20 hS ?_
        refine tku 21 hS ?_
        refine tku 22 hS ?_
        refine tku 23 hS ?_
        refine tk 24 hS ?_
        refine tk 25 hS ?_
        refine tku 26 hS ?_
        refine tku 27 hS ?_
        refine tku 28 hS ?_
        refine tku 29 hS ?_
        refine tku 30 hS ?_
        refine tk 31 hS ?_
        refine wpAnyH_done (by kernel_rfl) ?_ _
        refine NoPanic.normal ?_
        clear hS
        go_wp2
        go_ret
        exact ⟨ret_int E2.out.symm, HB.out⟩
      have e0 : decide (dn < 0) = false := decide_eq_false c2
      by_cases c3 : ak < wrap64 (dn + 1)
      · have e1 : decide (ak < wrap64 (dn + 1)) = true := decide_eq_true c3
        have E2 := hid (show gchkC ⟨nd, dn, ak, true⟩ = 220 from HGN.out (fun h => by unfold GrQ at h; have := HL2.out; omega))
        clear c2 c3
        have bx := (Below.refl W0.heap.size W0).drew
        replace HR := hid (HR.out.step bx); replace P := hid (P.out.step bx); replace HB := hid (below_then HB.out bx)
        clear bx
        have hszd := hid (show W0.drew.heap.size = W0.heap.size from rfl)
        refine wp_region_noPanic ?_
        refine wp_region_held_drew (S := (fun W' : World => W'.cell? ⟨w.heap.size, 0, none⟩ = some (.int .i64 dn) ∧ W'.cell? ⟨w.heap.size, 1, none⟩ = some (.int .i64 ak) ∧ W'.cell? ⟨w.heap.size, 2, none⟩ = some (.bool true) ∧ W'.cell? ⟨w.heap.size, 3, none⟩ = some (.slice D k e))) (by kernel_rfl) ⟨P.out.cells4.1, P.out.cells4.2.1, P.out.cells4.2.2.1, P.out.cells4.2.2.2.1⟩ (fun hS => ?_)
        generalize W0.drew = Wd at *
        refine tk 0 hS ?_
        refine tk 1 hS ?_
        refine tk 2 hS ?_
        refine tk 3 hS ?_
        refine tk 4 hS ?_
        refine tk 5 hS ?_
        refine tk 6 hS ?_
        refine tk 7 hS ?_
        refine tk 8 hS ?_
        refine tk 9 hS ?_
        refine tk 10 hS ?_
        refine tk 11 hS ?_
        refine tk 12 hS ?_
        refine tk 13 hS ?_
        refine tku 14 hS ?_
        refine tku 15 hS ?_
        refine tku 16 hS ?_
        refine tku 17 hS ?_
        refine tku 18 hS ?_
        refine tk 19 hS ?_
        refine tk 20 hS ?_
        refine tku 21 hS ?_
        refine tku 22 hS ?_
        refine tku 23 hS ?_
        refine tk 24 hS ?_
        refine tk 25 hS ?_
        refine tku 26 hS ?_
        refine tku 27 hS ?_
        refine tku 28 hS ?_
        refine tku 29 hS ?_
        refine tku 30 hS ?_
        refine tk 31 hS ?_
        refine wpAnyH_done (by kernel_rfl) ?_ _
        refine NoPanic.normal ?_
        clear hS
        go_wp2
        go_ret
        exact ⟨ret_int E2.out.symm, HB.out⟩
      have e1 : decide (ak < wrap64 (dn + 1)) = false := decide_eq_false c3
      by_cases c4 : N < ak
      · have e2 : decide (N < ak) = true := decide_eq_true c4
        have E2 := hid (show gchkC ⟨nd, dn, ak, true⟩ = 220 from HGN.out (fun h => by unfold GrQ at h; have := HL2.out; omega))
        clear c2 c3 c4
        have bx := (Below.refl W0.heap.size W0).drew
        replace HR := hid (HR.out.step bx); replace P := hid (P.out.step bx); replace HB := hid (below_then HB.out bx)
        clear bx
        have hszd := hid (show W0.drew.heap.size = W0.heap.size from rfl)
        refine wp_region_noPanic ?_
        refine wp_region_held_drew (S := (fun W' : World => W'.cell? ⟨w.heap.size, 0, none⟩ = some (.int .i64 dn) ∧ W'.cell? ⟨w.heap.size, 1, none⟩ = some (.int .i64 ak) ∧ W'.cell? ⟨w.heap.size, 2, none⟩ = some (.bool true) ∧ W'.cell? ⟨w.heap.size, 3, none⟩ = some (.slice D k e))) (by kernel_rfl) ⟨P.out.cells4.1, P.out.cells4.2.1, P.out.cells4.2.2.1, P.out.cells4.2.2.2.1⟩ (fun hS => ?_)
        generalize W0.drew = Wd at *
        refine tk 0 hS ?_
        refine tk 1 hS ?_
        refine tk 2 hS ?_
        refine tk 3 hS ?_
        refine tk 4 hS ?_
        refine tk 5 hS ?_
        refine tk 6 hS ?_
        refine tk 7 hS ?_
        refine tk 8 hS ?_
        refine tk 9 hS ?_
        refine tk 10 hS ?_
        refine tk 11 hS ?_
        refine tk 12 hS ?_
        refine tk 13 hS ?_
        refine tk 14 hS ?_
        refine tk 15 hS ?_
        refine tk 16 hS ?_
        refine rdy [17] (csy (fun K hK => ?_) AllReadyH.nil)
        go_simp
        refine (next_any ⟨nd, dn, ak, true⟩ D k e _).mono ?_
        rintro e w17 ⟨rfl, hb⟩
        have hsz0 := hid (show Wd.heap.size ≤ w17.heap.size from hb.size)
        replace HR := hid (HR.out.step hb); replace P := hid (P.out.step hb); replace HB := hid (below_then HB.out hb)
        clear hb
        rw [← HN.out]
        go_wp2_with fail
        clear hS
        refine ky hK ⟨P.out.cells4.1, P.out.cells4.2.1, P.out.cells4.2.2.1, P.out.cells4.2.2.2.1⟩ fun hS => ?_
        clear hK K
        refine tk 18 hS ?_
        refine tk 19 hS ?_
        refine tk 20 hS ?_
        refine tku 21 hS ?_
        refine tku 22 hS ?_
        refine tku 23 hS ?_
        refine tk 24 hS ?_
        refine tk 25 hS ?_
        refine tku 26 hS ?_
        refine tku 27 hS ?_
        refine tku 28 hS ?_
        refine tku 29 hS ?_
        refine tku 30 hS ?_
        refine tk 31 hS ?_
        refine wpAnyH_done (by kernel_rfl) ?_ _
        refine NoPanic.normal ?_
        clear hS
        go_wp2
        go_ret
        exact ⟨ret_int E2.out.symm, HB.out⟩
      have e2 : decide (N < ak) = false := decide_eq_false c4
      by_cases c5 : 2147483645 < ak
      · have e3 : decide (2147483645 < ak) = true := decide_eq_true c5
        have E2 := hid (show gchkC ⟨nd, dn, ak, true⟩ = 220 from HGN.out (fun h => by unfold GrQ at h; have := HL2.out; omega))
        clear c2 c3 c4 c5
        have bx := (Below.refl W0.heap.size W0).drew
        replace HR := hid (HR.out.step bx); replace P := hid (P.out.step bx); replace HB := hid (below_then HB.out bx)
        clear bx
        have hszd := hid (show W0.drew.heap.size = W0.heap.size from rfl)
        refine wp_region_noPanic ?_
        refine wp_region_held_drew (S := (fun W' : World => W'.cell? ⟨w.heap.size, 0, none⟩ = some (.int .i64 dn) ∧ W'.cell? ⟨w.heap.size, 1, none⟩ = some (.int .i64 ak) ∧ W'.cell? ⟨w.heap.size, 2, none⟩ = some (.bool true) ∧ W'.cell? ⟨w.heap.size, 3, none⟩ = some (.slice D k e))) (by kernel_rfl) ⟨P.out.cells4.1, P.out.cells4.2.1, P.out.cells4.2.2.1, P.out.cells4.2.2.2.1⟩ (fun hS => ?_)
        generalize W0.drew = Wd at *
        refine tk 0 hS ?_
        refine tk 1 hS ?_
        refine tk 2 hS ?_
        refine tk 3 hS ?_
        refine tk 4 hS ?_
        refine tk 5 hS ?_
        refine tk 6 hS ?_
        refine tk 7 hS ?_
        refine tk 8 hS ?_
        refine tk 9 hS ?_
        refine tk 10 hS ?_
        refine tk 11 hS ?_
        refine tk 12 hS ?_
        refine tk 13 hS ?_
        refine tk 14 hS ?_
        refine tk 15 hS ?_
        refine tk 16 hS ?_
        refine rdy [17] (csy (fun K hK => ?_) AllReadyH.nil)
        go_simp
        refine (next_any ⟨nd, dn, ak, true⟩ D k e _).mono ?_
        rintro e w17 ⟨rfl, hb⟩
        have hsz0 := hid (show Wd.heap.size ≤ w17.heap.size from hb.size)
        replace HR := hid (HR.out.step hb); replace P := hid (P.out.step hb); replace HB := hid (below_then HB.out hb)
        clear hb
        rw [← HN.out]
        go_wp2_with fail
        clear hS
        refine ky hK ⟨P.out.cells4.1, P.out.cells4.2.1, P.out.cells4.2.2.1, P.out.cells4.2.2.2.1⟩ fun hS => ?_
        clear hK K
        refine tk 18 hS ?_
        refine tk 19 hS ?_
        refine tk 20 hS ?_
        refine tk 21 hS ?_
        refine tk 22 hS ?_
        refine tk 23 hS ?_
        refine tk 24 hS ?_
        refine tk 25 hS ?_
        refine tku 26 hS ?_
        refine tku 27 hS ?_
        refine tku 28 hS ?_
        refine tku 29 hS ?_
        refine tku 30 hS ?_
        refine tk 31 hS ?_
        refine wpAnyH_done (by kernel_rfl) ?_ _
        refine NoPanic.normal ?_
        clear hS
        go_wp2
        go_ret
        exact ⟨ret_int E2.out.symm, HB.out⟩
      have e3 : decide (2147483645 < ak) = false := decide_eq_false c5
      rcases I with _ | _
      · skip
        have E2 := hid (show gchkC ⟨nd, dn, ak, true⟩ = 0 from HGY.out ⟨C1.out, by omega, by have := HL2.out; omega, by omega, by omega, by decide⟩)
        clear c2 c3 c4 c5
        have bx := (Below.refl W0.heap.size W0).drew
        replace HR := hid (HR.out.step bx); replace P := hid (P.out.step bx); replace HB := hid (below_then HB.out bx)
        clear bx
        have hszd := hid (show W0.drew.heap.size = W0.heap.size from rfl)
        refine wp_region_noPanic ?_
        refine wp_region_held_drew (S := (fun W' : World => W'.cell? ⟨w.heap.size, 0, none⟩ = some (.int .i64 dn) ∧ W'.cell? ⟨w.heap.size, 1, none⟩ = some (.int .i64 ak) ∧ W'.cell? ⟨w.heap.size, 2, none⟩ = some (.bool true) ∧ W'.cell? ⟨w.heap.size, 3, none⟩ = some (.slice D k e))) (by kernel_rfl) ⟨P.out.cells4.1, P.out.cells4.2.1, P.out.cells4.2.2.1, P.out.cells4.2.2.2.1⟩ (fun hS => ?_)
        generalize W0.drew = Wd at *
        refine tk 0 hS ?_
        refine tk 1 hS ?_
        refine tk 2 hS ?_
        refine tk 3 hS ?_
        refine tk 4 hS ?_
        refine tk 5 hS ?_
        refine tk 6 hS ?_
        refine tk 7 hS ?_
        refine tk 8 hS ?_
        refine tk 9 hS ?_
        refine tk 10 hS ?_
        refine tk 11 hS ?_
        refine tk 12 hS ?_
        refine tk 13 hS ?_
        refine tk 14 hS ?_
        refine tk 15 hS ?_
        refine tk 16 hS ?_
        refine rdy [17] (csy (fun K hK => ?_) AllReadyH.nil)
        go_simp
        refine (next_any ⟨nd, dn, ak, true⟩ D k e _).mono ?_
        rintro e w17 ⟨rfl, hb⟩
        have hsz0 := hid (show Wd.heap.size ≤ w17.heap.size from hb.size)
        replace HR := hid (HR.out.step hb); replace P := hid (P.out.step hb); replace HB := hid (below_then HB.out hb)
        clear hb
        rw [← HN.out]
        go_wp2_with fail
        clear hS
        refine ky hK ⟨P.out.cells4.1, P.out.cells4.2.1, P.out.cells4.2.2.1, P.out.cells4.2.2.2.1⟩ fun hS => ?_
        clear hK K
        refine tk 18 hS ?_
        refine tk 19 hS ?_
        refine tk 20 hS ?_
        refine tk 21 hS ?_
        refine tk 22 hS ?_
        refine tk 23 hS ?_
        refine tk 24 hS ?_
        refine tk 25 hS ?_
        refine tk 26 hS ?_
        refine tk 27 hS ?_
        refine tk 28 hS ?_
        refine rdy [29] (csy (fun K hK => ?_) AllReadyH.nil)
        go_simp
        refine (idle_any ⟨nd, dn, ak, true⟩ D k e lo _ HR.out hk).mono ?_
        rintro e w29 ⟨rfl, hb⟩
        have hsz1 := hid (show w17.heap.size ≤ w29.heap.size from hb.size)
        replace HR := hid (HR.out.step hb); replace P := hid (P.out.step hb); replace HB := hid (below_then HB.out hb)
        clear hb
        rw [show gIdle (Gr.nd ⟨nd, dn, ak, true⟩) = false from HI.out.symm]
        go_wp2_with fail
        clear hS
        refine ky hK ⟨P.out.cells4.1, P.out.cells4.2.1, P.out.cells4.2.2.1, P.out.cells4.2.2.2.1⟩ fun hS => ?_
        clear hK K
        refine tk 30 hS ?_
        refine tk 31 hS ?_
        refine wpAnyH_done (by kernel_rfl) ?_ _
        refine NoPanic.normal ?_
        clear hS
        go_wp2
        go_ret
        exact ⟨ret_int E2.out.symm, HB.out⟩
      · skip
        have E2 := hid (show gchkC ⟨nd, dn, ak, true⟩ = 220 from HGN.out (fun h => h.2.2.2.2.2 rfl))
        clear c2 c3 c4 c5
        have bx := (Below.refl W0.heap.size W0).drew
        replace HR := hid (HR.out.step bx); replace P := hid (P.out.step bx); replace HB := hid (below_then HB.out bx)
        clear bx
        have hszd := hid (show W0.drew.heap.size = W0.heap.size from rfl)
        refine wp_region_noPanic ?_
        refine wp_region_held_drew (S := (fun W' : World => W'.cell? ⟨w.heap.size, 0, none⟩ = some (.int .i64 dn) ∧ W'.cell? ⟨w.heap.size, 1, none⟩ = some (.int .i64 ak) ∧ W'.cell? ⟨w.heap.size, 2, none⟩ = some (.bool true) ∧ W'.cell? ⟨w.heap.size, 3, none⟩ = some (.slice D k e))) (by kernel_rfl) ⟨P.out.cells4.1, P.out.cells4.2.1, P.out.cells4.2.2.1, P.out.cells4.2.2.2.1⟩ (fun hS => ?_)
        generalize W0.drew = Wd at *
        refine tk 0 hS ?_
        refine tk 1 hS ?_
        refine tk 2 hS ?_
        refine tk 3 hS ?_
        refine tk 4 hS ?_
        refine tk 5 hS ?_
        refine tk 6 hS ?_
        refine tk 7 hS ?_
        refine tk 8 hS ?_
        refine tk 9 hS ?_
        refine tk 10 hS ?_
        refine tk 11 hS ?_
        refine tk 12 hS ?_
        refine tk 13 hS ?_
        refine tk 14 hS ?_
        refine tk 15 hS ?_
        refine tk 16 hS ?_
        refine rdy [17] (csy (fun K hK => ?_) AllReadyH.nil)
        go_simp
        refine (next_any ⟨nd, dn, ak, true⟩ D k e _).mono ?_
        rintro e w17 ⟨rfl, hb⟩
        have hsz0 := hid (show Wd.heap.size ≤ w17.heap.size from hb.size)
        replace HR := hid (HR.out.step hb); replace P := hid (P.out.step hb); replace HB := hid (below_then HB.out hb)
        clear hb
        rw [← HN.out]
        go_wp2_with fail
        clear hS
        refine ky hK ⟨P.out.cells4.1, P.out.cells4.2.1, P.out.cells4.2.2.1, P.out.cells4.2.2.2.1⟩ fun hS => ?_
        clear hK K
        refine tk 18 hS ?_
        refine tk 19 hS ?_
        refine tk 20 hS ?_
        refine tk 21 hS ?_
        refine tk 22 hS ?_
        refine tk 23 hS ?_
        refine tk 24 hS ?_
        refine tk 25 hS ?_
        refine tk 26 hS ?_
        refine tk 27 hS ?_
        refine tk 28 hS ?_
        refine rdy [29] (csy (fun K hK => ?_) AllReadyH.nil)
        go_simp
        refine (idle_any ⟨nd, dn, ak, true⟩ D k e lo _ HR.out hk).mono ?_
        rintro e w29 ⟨rfl, hb⟩
        have hsz1 := hid (show w17.heap.size ≤ w29.heap.size from hb.size)
        replace HR := hid (HR.out.step hb); replace P := hid (P.out.step hb); replace HB := hid (below_then HB.out hb)
        clear hb
        rw [show gIdle (Gr.nd ⟨nd, dn, ak, true⟩) = true from HI.out.symm]
        go_wp2_with fail
        clear hS
        refine ky hK ⟨P.out.cells4.1, P.out.cells4.2.1, P.out.cells4.2.2.1, P.out.cells4.2.2.2.1⟩ fun hS => ?_
        clear hK K
        refine tk 30 hS ?_
        refine tk 31 hS ?_
        refine wpAnyH_done (by kernel_rfl) ?_ _
        refine NoPanic.normal ?_
        clear hS
        go_wp2
        go_ret
        exact ⟨ret_int E2.out.symm, HB.out⟩
  have C1 := hid c1
  obtain ⟨dk1, hdk1⟩ : ∃ b, b = decide (1 ≤ k) := ⟨_, rfl⟩
  obtain ⟨dk2, hdk2⟩ : ∃ b, b = decide (k ≤ 8) := ⟨_, rfl⟩
  rw [← hdk1] at k1 k2
  rw [← hdk2] at k3
  have hnot : (dk1 = false) ∨ (dk1 = true ∧ dk2 = false) := by
    rcases hb1 : dk1 with _ | _
    · exact .inl rfl
    · refine .inr ⟨rfl, ?_⟩
      rw [hdk2]; rw [hb1] at hdk1; have := of_decide_eq_true hdk1.symm
      exact decide_eq_false (fun h => c1 ⟨this, h⟩)
  clear c1 hdk1 hdk2
  rcases hnot with rfl | ⟨rfl, rfl⟩
  · skip
    rcases on with _ | _
    · have HL2 := hid (show L = dn from HLE.out)
      go_upto_region 5 with fail
      generalize w.alloc (.cells #[.int .i64 dn, .int .i64 ak, .bool false, .slice D k e] 27) = W0 at *
      clear k1 k2 k3
      have E2 := hid (show gchkC ⟨nd, dn, ak, false⟩ = 220 from HGN.out (fun h => C1.out h.1))
      skip
      have bx := (Below.refl W0.heap.size W0).drew
      replace HR := hid (HR.out.step bx); replace P := hid (P.out.step bx); replace HB := hid (below_then HB.out bx)
      clear bx
      have hszd := hid (show W0.drew.heap.size = W0.heap.size from rfl)
      refine wp_region_noPanic ?_
      refine wp_region_held_drew (S := (fun W' : World => W'.cell? ⟨w.heap.size, 0, none⟩ = some (.int .i64 dn) ∧ W'.cell? ⟨w.heap.size, 1, none⟩ = some (.int .i64 ak) ∧ W'.cell? ⟨w.heap.size, 2, none⟩ = some (.bool false) ∧ W'.cell? ⟨w.heap.size, 3, none⟩ = some (.slice D k e))) (by kernel_rfl) ⟨P.out.cells4.1, P.out.cells4.2.1, P.out.cells4.2.2.1, P.out.cells4.2.2.2.1⟩ (fun hS => ?_)
      generalize W0.drew = Wd at *
      refine tk 0 hS ?_
      refine tk 1 hS ?_
      refine tk 2 hS ?_
      refine tku 3 hS ?_
      refine tku 4 hS ?_
      refine tku 5 hS ?_
      refine tk 6 hS ?_
      refine tk 7 hS ?_
      refine tku 8 hS ?_
      refine tku 9 hS ?_
      refine tku 10 hS ?_
      refine tku 11 hS ?_
      refine tk 12 hS ?_
      refine tk 13 hS ?_
      refine tku 14 hS ?_
      refine tku 15 hS ?_
      refine tku 16 hS ?_
      refine tku 17 hS ?_
      refine tku 18 hS ?_
      refine tk 19 hS ?_
      refine tk 20 hS ?_
      refine tku 21 hS ?_
      refine tku 22 hS ?_
      refine tku 23 hS ?_
      refine tk 24 hS ?_
      refine tk 25 hS ?_
      refine tku 26 hS ?_
      refine tku 27 hS ?_
      refine tku 28 hS ?_
      refine tku 29 hS ?_
      refine tku 30 hS ?_
      refine tk 31 hS ?_
      refine wpAnyH_done (by kernel_rfl) ?_ _
      refine NoPanic.normal ?_
      clear hS
      go_wp2
      go_ret
      exact ⟨ret_int E2.out.symm, HB.out⟩
    · have HL2 := hid (show L = wrap64 (dn + 1) from HLE.out)
      go_upto_region 5 with fail
      generalize w.alloc (.cells #[.int .i64 dn, .int .i64 ak, .bool true, .slice D k e] 27) = W0 at *
      clear k1 k2 k3
      have E2 := hid (show gchkC ⟨nd, dn, ak, true⟩ = 220 from HGN.out (fun h => C1.out h.1))
      skip
      have bx := (Below.refl W0.heap.size W0).drew
      replace HR := hid (HR.out.step bx); replace P := hid (P.out.step bx); replace HB := hid (below_then HB.out bx)
      clear bx
      have hszd := hid (show W0.drew.heap.size = W0.heap.size from rfl)
      refine wp_region_noPanic ?_
      refine wp_region_held_drew (S := (fun W' : World => W'.cell? ⟨w.heap.size, 0, none⟩ = some (.int .i64 dn) ∧ W'.cell? ⟨w.heap.size, 1, none⟩ = some (.int .i64 ak) ∧ W'.cell? ⟨w.heap.size, 2, none⟩ = some (.bool true) ∧ W'.cell? ⟨w.heap.size, 3, none⟩ = some (.slice D k e))) (by kernel_rfl) ⟨P.out.cells4.1, P.out.cells4.2.1, P.out.cells4.2.2.1, P.out.cells4.2.2.2.1⟩ (fun hS => ?_)
      generalize W0.drew = Wd at *
      refine tk 0 hS ?_
      refine tk 1 hS ?_
      refine tk 2 hS ?_
      refine tku 3 hS ?_
      refine tku 4 hS ?_
      refine tku 5 hS ?_
      refine tk 6 hS ?_
      refine tk 7 hS ?_
      refine tku 8 hS ?_
      refine tku 9 hS ?_
      refine tku 10 hS ?_
      refine tku 11 hS ?_
      refine tk 12 hS ?_
      refine tk 13 hS ?_
      refine tku 14 hS ?_
      refine tku 15 hS ?_
      refine tku 16 hS ?_
      refine tku 17 hS ?_
      refine tku 18 hS ?_
      refine tk 19 hS ?_
      refine tk 20 hS ?_
      refine tku 21 hS ?_
      refine tku 22 hS ?_
      refine tku 23 hS ?_
      refine tk 24 hS ?_
      refine tk 25 hS ?_
      refine tku 26 hS ?_
      refine tku 27 hS ?_
      refine tku 28 hS ?_
      refine tku 29 hS ?_
      refine tku 30 hS ?_
      refine tk 31 hS ?_
      refine wpAnyH_done (by kernel_rfl) ?_ _
      refine NoPanic.normal ?_
      clear hS
      go_wp2
      go_ret
      exact ⟨ret_int E2.out.symm, HB.out⟩
  · skip
    rcases on with _ | _
    · have HL2 := hid (show L = dn from HLE.out)
      go_upto_region 5 with fail
      generalize w.alloc (.cells #[.int .i64 dn, .int .i64 ak, .bool false, .slice D k e] 27) = W0 at *
      clear k1 k2 k3
      have E2 := hid (show gchkC ⟨nd, dn, ak, false⟩ = 220 from HGN.out (fun h => C1.out h.1))
      skip
      have bx := (Below.refl W0.heap.size W0).drew
      replace HR := hid (HR.out.step bx); replace P := hid (P.out.step bx); replace HB := hid (below_then HB.out bx)
      clear bx
      have hszd := hid (show W0.drew.heap.size = W0.heap.size from rfl)
      refine wp_region_noPanic ?_
      refine wp_region_held_drew (S := (fun W' : World => W'.cell? ⟨w.heap.size, 0, none⟩ = some (.int .i64 dn) ∧ W'.cell? ⟨w.heap.size, 1, none⟩ = some (.int .i64 ak) ∧ W'.cell? ⟨w.heap.size, 2, none⟩ = some (.bool false) ∧ W'.cell? ⟨w.heap.size, 3, none⟩ = some (.slice D k e))) (by kernel_rfl) ⟨P.out.cells4.1, P.out.cells4.2.1, P.out.cells4.2.2.1, P.out.cells4.2.2.2.1⟩ (fun hS => ?_)
      generalize W0.drew = Wd at *
      refine tk 0 hS ?_
      refine tk 1 hS ?_
      refine tk 2 hS ?_
      refine tku 3 hS ?_
      refine tku 4 hS ?_
      refine tku 5 hS ?_
      refine tk 6 hS ?_
      refine tk 7 hS ?_
      refine tku 8 hS ?_
      refine tku 9 hS ?_
      refine tku 10 hS ?_
      refine tku 11 hS ?_
      refine tk 12 hS ?_
      refine tk 13 hS ?_
      refine tku 14 hS ?_
      refine tku 15 hS ?_
      refine tku 16 hS ?_
      refine tku 17 hS ?_
      refine tku 18 hS ?_
      refine tk 19 hS ?_
      refine tk 20 hS ?_
      refine tku 21 hS ?_
      refine tku 22 hS ?_
      refine tku 23 hS ?_
      refine tk 24 hS ?_
      refine tk 25 hS ?_
      refine tku 26 hS ?_
      refine tku 27 hS ?_
      refine tku 28 hS ?_
      refine tku 29 hS ?_
      refine tku 30 hS ?_
      refine tk 31 hS ?_
      refine wpAnyH_done (by kernel_rfl) ?_ _
      refine NoPanic.normal ?_
      clear hS
      go_wp2
      go_ret
      exact ⟨ret_int E2.out.symm, HB.out⟩
    · have HL2 := hid (show L = wrap64 (dn + 1) from HLE.out)
      go_upto_region 5 with fail
      generalize w.alloc (.cells #[.int .i64 dn, .int .i64 ak, .bool true, .slice D k e] 27) = W0 at *
      clear k1 k2 k3
      have E2 := hid (show gchkC ⟨nd, dn, ak, true⟩ = 220 from HGN.out (fun h => C1.out h.1))
      skip
      have bx := (Below.refl W0.heap.size W0).drew
      replace HR := hid (HR.out.step bx); replace P := hid (P.out.step bx); replace HB := hid (below_then HB.out bx)
      clear bx
      have hszd := hid (show W0.drew.heap.size = W0.heap.size from rfl)
      refine wp_region_noPanic ?_
      refine wp_region_held_drew (S := (fun W' : World => W'.cell? ⟨w.heap.size, 0, none⟩ = some (.int .i64 dn) ∧ W'.cell? ⟨w.heap.size, 1, none⟩ = some (.int .i64 ak) ∧ W'.cell? ⟨w.heap.size, 2, none⟩ = some (.bool true) ∧ W'.cell? ⟨w.heap.size, 3, none⟩ = some (.slice D k e))) (by kernel_rfl) ⟨P.out.cells4.1, P.out.cells4.2.1, P.out.cells4.2.2.1, P.out.cells4.2.2.2.1⟩ (fun hS => ?_)
      generalize W0.drew = Wd at *
      refine tk 0 hS ?_
      refine tk 1 hS ?_
      refine tk 2 hS ?_
      refine tku 3 hS ?_
      refine tku 4 hS ?_
      refine tku 5 hS ?_
      refine tk 6 hS ?_
      refine tk 7 hS ?_
      refine tku 8 hS ?_
      refine tku 9 hS ?_
      refine tku 10 hS ?_
      refine tku 11 hS ?_
      refine tk 12 hS ?_
      refine tk 13 hS ?_
      refine tku 14 hS ?_
      refine tku 15 hS ?_
      refine tku 16 hS ?_
      refine tku 17 hS ?_
      refine tku 18 hS ?_
      refine tk 19 hS ?_
      refine tk 20 hS ?_
      refine tku 21 hS ?_
      refine tku 22 hS ?_
      refine tku 23 hS ?_
      refine tk 24 hS ?_
      refine tk 25 hS ?_
      refine tku 26 hS ?_
      refine tku 27 hS ?_
      refine tku 28 hS ?_
      refine tku 29 hS ?_
      refine tku 30 hS ?_
      refine tk 31 hS ?_
      refine wpAnyH_done (by kernel_rfl) ?_ _
      refine NoPanic.normal ?_
      clear hS
      go_wp2
      go_ret
      exact ⟨ret_int E2.out.symm, HB.out⟩
end Go.Proofs.YtfipdoofgbjbjaaGreat

/- package grace: the deferred function of tries. No condition. -/
namespace Go.Proofs.YtfipdoofgbjbjaaGreat
open Go.RowKit
theorem neq_nil (e : Int) (w : World) : (binOp .neq 20 (.iface 39 (.int .i64 e)) .nilIface).run Tryz.prog w = .ok (.bool true) w := by
  kernel_rfl
theorem is_errno (e : Int) (w : World) : (Instr.typeAssert (.iface 39 (.int .i64 e)) 20 39 true).run Tryz.prog w = .ok (.tuple #[.int .i64 e, .bool true]) w := by
  kernel_rfl
theorem nil_nil (w : World) : (binOp .neq 20 .nilIface .nilIface).run Tryz.prog w = .ok (.bool false) w := by
  kernel_rfl
theorem wp_weak {c : Code} {a : Act} {w : World} {Q : Exit → Act → World → Prop} (R : World → Prop) (h : ∀ Q' : Exit → Act → World → Prop, (∀ a' W', a'.defers = [] → R W' → Q' .normal a' W') → Code.wp Tryz.prog c Q' a w)
    (hq : ∀ a' W', a'.defers = [] → R W' → Q .normal a' W') : Code.wp Tryz.prog c Q a w := h Q hq
/-- readers and a grace, and what was asked for, as cells -/
@[reducible] def bth (now : Int) (A : Option Addr) (n k : Nat) (B : Option Addr) (m d : Nat) (g : Gr) (D : Option Addr) (nd kd : Nat) (E : Option Addr) (ne ke : Nat) : Array Value :=
  #[.int .i64 now, .slice A n k, .slice B m d, .int .i64 g.dn, .int .i64 g.ak, .bool g.on, .slice D nd kd, .slice E ne ke]
@[reducible] def bth0 : Array Value := #[.int .i64 0, .slice none 0 0, .slice none 0 0, .int .i64 0, .int .i64 0, .bool false, .slice none 0 0, .slice none 0 0]
/-- what the deferred function leaves: a new both, and the error -/
def Caught (lo gb ge : Nat) (e : Int) (w w' : World) : Prop := ∃ gn, w.heap.size ≤ gn ∧ Below lo w w' ∧ Blk w' gn 160 bth0 ∧ Blk w' gb 154 #[ptr gn] ∧ Blk w' ge 39 #[.int .i64 e]
set_option maxRecDepth 100000 in
set_option maxHeartbeats 400000 in
theorem catch_panicking (gb ge lo : Nat) (e : Int) (v0 v1 : Value) (w : World) (hb : Blk w gb 154 #[v0]) (he : Blk w ge 39 #[v1]) (hl : lo ≤ gb) (hl' : lo ≤ ge) (hls : lo ≤ w.heap.size) :
    CallsD Tryz.prog 143 #[ptr gb, ptr ge] (.panicking [{ v := .iface 39 (.int .i64 e), recovered := false }]) w fun x u' w' =>
      x = .returned (.tuple #[]) ∧ u' = .panicking [{ v := .iface 39 (.int .i64 e), recovered := true }] ∧ Caught lo gb ge e w w' := by
  have HB := hid hb; have HE := hid he
  have hlt := hid hb.lt; have hlt' := hid he.lt
  have hne := hid (show gb ≠ ge from fun h => by subst h; unfold Blk at hb he; rw [hb] at he; simp at he)
  clear hb he
  refine callsD_of_wpS Tryz.func143 rfl fun c₀ cs hu => ?_
  apply wpS_seq
  apply wpS_region
  simp [wpOpsS, go_sem, recoverD, hu, Tryz.ntmps143, Exit.thenS]
  clear hu
  refine wpS_of_wp (wp_weak (Caught lo gb ge e w) (fun Q hQ => ?_) ?_)
  · have HQ := hid hQ
    clear hQ
    have P := hid (Blk.new w 160 bth0)
    have HB1 := hid (HB.out.alloc (.cells #[.int .i64 0, .slice none 0 0, .slice none 0 0, .int .i64 0, .int .i64 0, .bool false, .slice none 0 0, .slice none 0 0] 160))
    have HE1 := hid (HE.out.alloc (.cells #[.int .i64 0, .slice none 0 0, .slice none 0 0, .int .i64 0, .int .i64 0, .bool false, .slice none 0 0, .slice none 0 0] 160))
    have hN : ∀ w : World, (binOp .neq 20 (.iface 39 (.int .i64 e)) .nilIface).run Tryz.prog w = .ok (.bool true) w := neq_nil e
    have hT : ∀ w : World, (Instr.typeAssert (.iface 39 (.int .i64 e)) 20 39 true).run Tryz.prog w = .ok (.tuple #[.int .i64 e, .bool true]) w := is_errno e

    change Code.wp _ _ Q { tmps := #[ptr gb, ptr ge, .iface 39 (.int .i64 e), undef, undef, .iface 39 (.int .i64 e), undef, undef, undef, undef, undef, undef, undef, undef, undef, undef, undef, undef, undef], defers := [] } w
    go_upto_region 5 with fail
    have c0 := HB1.out.cell 0
    have f0 := HB1.out.frozen 0
    have c1 := HE1.out.cell 0
    have f1 := HE1.out.frozen 0
    have n1 : ¬ gb = ge := hne.out
    have n2 : ¬ ge = gb := fun h => hne.out h.symm
    clear hN hT
    go_wp2_with fail
    exact HQ.out _ _ rfl ⟨w.heap.size, Nat.le_refl _, (((Below.refl lo w).alloc hls _).setCell hl _).setCell hl' _, (P.out.far (p := ⟨gb, 0, none⟩) (Nat.ne_of_gt hlt.out) _).far (p := ⟨ge, 0, none⟩) (Nat.ne_of_gt hlt'.out) _, (HB1.out.setCell 0 _).far (p := ⟨ge, 0, none⟩) hne.out _, (HE1.out.far (p := ⟨gb, 0, none⟩) (fun h => hne.out h.symm) _).setCell 0 _⟩
  · rintro a' W' hd hR
    exact ⟨hd, _, rfl, .tuple #[], results_none rfl _ _ _, rfl, rfl, hR⟩
set_option maxRecDepth 100000 in
set_option maxHeartbeats 4000000 in
theorem catch_idle (gb ge : Nat) (w : World) :
    CallsD Tryz.prog 143 #[ptr gb, ptr ge] .returning w fun x u' w' => x = .returned (.tuple #[]) ∧ u' = .returning ∧ w' = w := by
  refine callsD_of_wpS Tryz.func143 rfl fun c₀ cs hu => ?_
  apply wpS_seq
  apply wpS_region
  simp [wpOpsS, go_sem, recoverD, hu, Tryz.ntmps143, Exit.thenS]
  refine wpS_of_wp (wp_weak (fun W' => W' = w) (fun Q hQ => ?_) ?_)
  · have HQ := hid hQ
    clear hQ hu
    have hN : ∀ w : World, (binOp .neq 20 .nilIface .nilIface).run Tryz.prog w = .ok (.bool false) w := nil_nil
    change Code.wp _ _ Q { tmps := #[ptr gb, ptr ge, .nilIface, undef, undef, .nilIface, undef, undef, undef, undef, undef, undef, undef, undef, undef, undef, undef, undef, undef], defers := [] } w
    apply wp_seq
    go_upto_region 1 with fail
    go_upto_region 2 with fail
    exact HQ.out _ _ rfl rfl
  · rintro a' W' hd rfl
    refine ⟨hd, .returning, ?_, .tuple #[], results_none rfl _ _ _, rfl, rfl, rfl⟩
    rw [← hu]
end Go.Proofs.YtfipdoofgbjbjaaGreat

/- package grace: tries. No condition but sizes. -/
namespace Go.Proofs.YtfipdoofgbjbjaaGreat
open Go.RowKit
theorem info_boolg : (Tryz.prog.info? 4).map (fun i => (i.zero, i.size, i.bytes)) = some (some (.bool false), 1, 1) := by kernel_rfl
theorem run_make_boolg (n : Nat) (hn : n ≤ 1000000) (w : World) :
    (Instr.makeSlice 25 (.int .i64 n) (.int .i64 n)).run Tryz.prog w = .ok (.slice (some ⟨w.heap.size, 0, none⟩) n n) (w.alloc (.cells (zrow (.bool false) n) 4)) := by
  obtain ⟨i0, hi0, hz00, hz01, hz02⟩ := info_parts info_boolg
  exact run_make1 Tryz.underlying25 hi0 hz00 hz01 rfl n (by rw [hz02]; omega) hn w
theorem GrownP.cut {q : Nat → Prop} {B : Nat} {w a b : World} (h : Below w.heap.size w a) (k : GrownP (fun i => q i ∨ B ≤ i) a b) (hB : w.heap.size ≤ B) : GrownP q w b :=
  ⟨k.os.trans h.os, k.tape.trans h.tape, k.output.trans h.output, Nat.le_trans h.size k.size, fun i hi hq => (k.block i (Nat.lt_of_lt_of_le hi h.size) (fun e => by rcases e with e | e; exact hq e; omega)).trans (h.block i hi)⟩
theorem GrownP.setCell {q : Nat → Prop} {w a : World} (h : GrownP q w a) {p : Addr} (hp : w.heap.size ≤ p.block) (u : Value) : GrownP q w (a.setCell p u) :=
  ⟨h.os, h.tape, h.output, by simpa using h.size, fun i hi hq => (Below.heap_setCell a p u i (by omega)).trans (h.block i hi hq)⟩
theorem GrownP.then_ {q : Nat → Prop} {w a b : World} (h : GrownP q w a) (k : Below w.heap.size a b) : GrownP q w b :=
  ⟨k.os.trans h.os, k.tape.trans h.tape, k.output.trans h.output, Nat.le_trans h.size k.size, fun i hi hq => (k.block i hi).trans (h.block i hi hq)⟩
theorem GrownP.toBelow {w a : World} (h : GrownP (fun _ => False) w a) : Below w.heap.size w a := ⟨h.os, h.tape, h.output, h.size, fun i hi => h.block i hi id⟩
theorem Blk.keptP {p : Nat → Prop} {w w' : World} {g : Nat} {t : TypeId} {cs : Array Value} (h : Blk w g t cs) (k : GrownP p w w') (hn : ¬ p g) : Blk w' g t cs := (k.block g h.lt hn).trans h
/-- what a function that tries hands back; q: what the closure may write besides -/
def Tried (w : World) (q : Nat → Prop) (YES : Nat → Nat → World → Prop) (NO : Int → World → Prop) (x : Ending) (w' : World) : Prop :=
  GrownP q w w' ∧ ((∃ gb, x = .returned (.tuple #[ptr gb, .int .i64 0]) ∧ ∃ l, w.heap.size ≤ l ∧ l ≤ gb ∧ YES l gb w') ∨ ∃ gn c, x = .returned (.tuple #[ptr gn, .int .i64 c]) ∧ NO c w' ∧ w.heap.size ≤ gn ∧ Blk w' gn 160 bth0)
set_option maxRecDepth 100000 in
set_option maxHeartbeats 4000000 in
theorem tries_any (g : Gr) (D : Option Addr) (k e lo : Nat) (F : Nat) (caps : Array Value) (q : Nat → Prop) (YES : Nat → Nat → World → Prop) (NO : Int → World → Prop) (w : World) (hq : ∀ i, q i → i < w.heap.size) (h : Sl blv false w lo w.heap.size D k g.nd) (hk : k ≤ 1000000) (hg : GrOk g) (hF : Enters Tryz.prog F)
    (hdo : ∀ (w1 : World) (gd gb : Nat), w.heap.size ≤ gd → w.heap.size ≤ gb → gd ≠ gb → Below w.heap.size w w1 → Blk w1 gb 160 (bth 0 none 0 0 none 0 0 g (some ⟨gd, 0, none⟩) k k none 0 0) → Ow blv w1 gd 4 (some ⟨gd, 0, none⟩) k k g.nd →
      Calls Tryz.prog F (#[ptr gb] ++ caps) w1 fun x w2 => GrownP (fun i => q i ∨ min gd gb ≤ i) w1 w2 ∧ ((x = .returned (.tuple #[]) ∧ YES (min gd gb) gb w2) ∨ ∃ c, x = leaves c ∧ NO c w2))
    (hst : ∀ (l gb : Nat) (W : World) (p : Addr) (u : Value), YES l gb W → w.heap.size ≤ p.block → p.block < l → YES l gb (W.setCell p u))
    (hsn : ∀ (c : Int) (W W' : World), NO c W → Below w.heap.size W W' → NO c W') :
    Calls Tryz.prog 123 #[gv g D k e, .func (.func F) #[] caps] w (Tried w q YES NO) := by
  have HR := hid h; have HB := hid (Below.refl w.heap.size w); have HDO := hid hdo; have HG := hid hg; have HL := hid h.len; have HF := hid hF; have HST := hid hst; have HSN := hid hsn; have HQ := hid hq
  clear h hdo hg hF hst hsn hq
  have hmf : ∀ (fn : Fn) (first cap : Array Value) (w : World), (Instr.makeFunc fn first cap).run Tryz.prog w = .ok (.func fn first cap) w := fun _ _ _ _ => rfl
  have bx := below_box w (.cells (gcs g D k e) 27)
  replace HR := hid (HR.out.step bx); replace HB := hid (below_then HB.out bx)
  clear bx
  have P2 := hid (Blk.new w 27 (gcs g D k e))
  have bx := below_box (w.alloc (.cells (gcs g D k e) 27)) (.cells #[.pointer none] 154)
  replace HR := hid (HR.out.step bx); replace P2 := hid (P2.out.step bx); replace HB := hid (below_then HB.out bx)
  clear bx
  have P4 := hid (Blk.new2 w 154 #[.pointer none] (.cells (gcs g D k e) 27))
  have bx := below_box ((w.alloc (.cells (gcs g D k e) 27)).alloc (.cells #[.pointer none] 154)) (.cells #[.int .i64 0] 39)
  replace HR := hid (HR.out.step bx); replace P2 := hid (P2.out.step bx); replace P4 := hid (P4.out.step bx); replace HB := hid (below_then HB.out bx)
  clear bx
  have P5 := hid (Blk.new3 w 39 #[.int .i64 0] (.cells (gcs g D k e) 27) (.cells #[.pointer none] 154))
  go_enter_defers Tryz.func123, Tryz.ntmps123
  go_upto_region 2 with fail
  have hz0 := hid (show (((w.alloc (.cells (gcs g D k e) 27)).alloc (.cells #[.pointer none] 154)).alloc (.cells #[.int .i64 0] 39)).heap.size = w.heap.size + 3 by simp)
  generalize ((w.alloc (.cells (gcs g D k e) 27)).alloc (.cells #[.pointer none] 154)).alloc (.cells #[.int .i64 0] 39) = W0 at *
  have HZ := hid hz0
  clear hz0 hmf
  obtain ⟨y00, y01, y02, y03, yf0⟩ := P2.out.cells4
  go_wp2_with fail
  clear y00 y01 y02 y03 yf0
  refine (gcheck_any g D k e lo _ HR.out hk).mono ?_
  rintro e w1 ⟨rfl, hb⟩
  have HS1 := hid hb.size
  replace HR := hid (HR.out.step hb); replace P2 := hid (P2.out.step hb); replace P4 := hid (P4.out.step hb); replace P5 := hid (P5.out.step hb); replace HB := hid (below_then HB.out hb)
  clear hb
  rw [gchk_ok HG.out]
  go_wp2_with fail
  refine (need_yes 220 _).mono ?_
  rintro x v1 ⟨rfl, rfl⟩
  have hm := run_make_boolg k hk
  obtain ⟨y00, y01, y02, y03, yf0⟩ := P2.out.cells4
  go_upto_region 4 with fail
  clear hm y00 y01 y02 y03 yf0
  have HV := hid (Below.refl v1.heap.size v1)
  have bx := below_box v1 (.cells (zrow (.bool false) k) 4)
  replace HR := hid (HR.out.step bx); replace P2 := hid (P2.out.step bx); replace P4 := hid (P4.out.step bx); replace P5 := hid (P5.out.step bx); replace HB := hid (below_then HB.out bx); replace HV := hid (below_then HV.out bx)
  clear bx
  have PD := hid (Blk.new v1 4 (zrow (.bool false) k))
  generalize v1.alloc (.cells (zrow (.bool false) k) 4) = W2 at *
  obtain ⟨y00, y01, y02, y03, yf0⟩ := P2.out.cells4
  have q2 := fun ty => run_copy_full (P := Tryz.prog) blv false 25 25 ty 4 Tryz.underlying25 (by kernel_rfl) v1.heap.size k k e D _ _ PD.out (by simp [zrow]) _ _ g.nd HR.out (fun _ => rfl)
  go_upto_region 5 with fail
  clear q2 y00 y01 y02 y03 yf0
  have hv := hid (show w.heap.size + 3 ≤ v1.heap.size by have := HZ.out.out; have := HS1.out; omega)
  replace PD := hid (show Blk (W2.setRow v1.heap.size (List.map blv g.nd).toArray) v1.heap.size 4 (List.map blv g.nd).toArray from PD.out.setRow)
  replace P2 := hid (P2.out.farRow (k := v1.heap.size) (cs' := (List.map blv g.nd).toArray) (by have := hv.out; omega))
  replace P4 := hid (P4.out.farRow (k := v1.heap.size) (cs' := (List.map blv g.nd).toArray) (by have := hv.out; omega))
  replace P5 := hid (P5.out.farRow (k := v1.heap.size) (cs' := (List.map blv g.nd).toArray) (by have := hv.out; omega))
  replace HB := hid (below_setRow HB.out (g := v1.heap.size) (by have := hv.out; omega) (List.map blv g.nd).toArray)
  clear HR HV
  generalize W2.setRow v1.heap.size (List.map blv g.nd).toArray = W3 at *
  obtain ⟨y00, y01, y02, y03, yf0⟩ := P2.out.cells4
  go_upto_region 6 with fail
  clear y00 y01 y02 y03 yf0
  have P2b := hid (P2.out.setCell 3 (.slice (some ⟨v1.heap.size, 0, none⟩) k k))
  replace P2 := hid (show Blk (W3.setCell ⟨w.heap.size, 3, none⟩ (.slice (some ⟨v1.heap.size, 0, none⟩) k k)) w.heap.size 27 (gcs g (some ⟨v1.heap.size, 0, none⟩) k k) from P2b.out)
  clear P2b
  replace P4 := hid (P4.out.far (p := ⟨w.heap.size, 3, none⟩) (by simp) (.slice (some ⟨v1.heap.size, 0, none⟩) k k))
  replace P5 := hid (P5.out.far (p := ⟨w.heap.size, 3, none⟩) (by simp; omega) (.slice (some ⟨v1.heap.size, 0, none⟩) k k))
  replace PD := hid (PD.out.far (p := ⟨w.heap.size, 3, none⟩) (by have := hv.out; simp; omega) (.slice (some ⟨v1.heap.size, 0, none⟩) k k))
  replace HB := hid (HB.out.setCell (p := ⟨w.heap.size, 3, none⟩) (Nat.le_refl _) (.slice (some ⟨v1.heap.size, 0, none⟩) k k))
  generalize W3.setCell ⟨w.heap.size, 3, none⟩ (.slice (some ⟨v1.heap.size, 0, none⟩) k k) = W4 at *
  have P4a := hid (P4.out.alloc (.cells #[.int .i64 0, .slice none 0 0, .slice none 0 0, .int .i64 g.dn, .int .i64 g.ak, .bool g.on, .slice (some ⟨v1.heap.size, 0, none⟩) k k, .slice none 0 0] 160))
  obtain ⟨y00, y01, y02, y03, yf0⟩ := P2.out.cells4
  obtain ⟨y10, yf1⟩ := P4a.out.cells1
  go_upto_region 7 with fail
  clear y00 y01 y02 y03 yf0 y10 yf1
  have hsz4 := hid PD.out.lt
  have PB := hid ((Blk.new W4 160 #[.int .i64 0, .slice none 0 0, .slice none 0 0, .int .i64 g.dn, .int .i64 g.ak, .bool g.on, .slice (some ⟨v1.heap.size, 0, none⟩) k k, .slice none 0 0]).far (p := ⟨w.heap.size + 1, 0, none⟩) (by have := hv.out; have := hsz4.out; simp; omega) (.pointer (some ⟨W4.heap.size, 0, none⟩)))
  replace P4 := hid (show Blk ((W4.alloc (.cells #[.int .i64 0, .slice none 0 0, .slice none 0 0, .int .i64 g.dn, .int .i64 g.ak, .bool g.on, .slice (some ⟨v1.heap.size, 0, none⟩) k k, .slice none 0 0] 160)).setCell ⟨w.heap.size + 1, 0, none⟩ (.pointer (some ⟨W4.heap.size, 0, none⟩))) (w.heap.size + 1) 154 #[ptr W4.heap.size] from (P4a.out.setCell 0 _))
  clear P4a
  replace P5 := hid ((P5.out.alloc (.cells #[.int .i64 0, .slice none 0 0, .slice none 0 0, .int .i64 g.dn, .int .i64 g.ak, .bool g.on, .slice (some ⟨v1.heap.size, 0, none⟩) k k, .slice none 0 0] 160)).far (p := ⟨w.heap.size + 1, 0, none⟩) (by simp) (.pointer (some ⟨W4.heap.size, 0, none⟩)))
  replace PD := hid ((PD.out.alloc (.cells #[.int .i64 0, .slice none 0 0, .slice none 0 0, .int .i64 g.dn, .int .i64 g.ak, .bool g.on, .slice (some ⟨v1.heap.size, 0, none⟩) k k, .slice none 0 0] 160)).far (p := ⟨w.heap.size + 1, 0, none⟩) (by have := hv.out; simp; omega) (.pointer (some ⟨W4.heap.size, 0, none⟩)))
  replace HB := hid ((HB.out.alloc HB.out.size (.cells #[.int .i64 0, .slice none 0 0, .slice none 0 0, .int .i64 g.dn, .int .i64 g.ak, .bool g.on, .slice (some ⟨v1.heap.size, 0, none⟩) k k, .slice none 0 0] 160)).setCell (p := ⟨w.heap.size + 1, 0, none⟩) (by simp) (.pointer (some ⟨W4.heap.size, 0, none⟩)))
  have hs5 := hid (show ((W4.alloc (.cells #[.int .i64 0, .slice none 0 0, .slice none 0 0, .int .i64 g.dn, .int .i64 g.ak, .bool g.on, .slice (some ⟨v1.heap.size, 0, none⟩) k k, .slice none 0 0] 160)).setCell ⟨w.heap.size + 1, 0, none⟩ (.pointer (some ⟨W4.heap.size, 0, none⟩))).heap.size = W4.heap.size + 1 by simp)
  clear P2
  generalize ((W4.alloc (.cells #[.int .i64 0, .slice none 0 0, .slice none 0 0, .int .i64 g.dn, .int .i64 g.ak, .bool g.on, .slice (some ⟨v1.heap.size, 0, none⟩) k k, .slice none 0 0] 160)).setCell ⟨w.heap.size + 1, 0, none⟩ (.pointer (some ⟨W4.heap.size, 0, none⟩))) = W5 at *
  have hEn := HF.out
  obtain ⟨y00, yf0⟩ := P4.out.cells1
  go_wp2_with fail
  clear y00 yf0 hEn
  rw [HF.out (#[ptr W4.heap.size] ++ caps) W5]
  rw [Oper.upon_enter]
  have hs4 := hid (show w.heap.size + 4 ≤ W4.heap.size by have := hv.out; have := hsz4.out; omega)
  refine (HDO.out W5 v1.heap.size W4.heap.size (by have := hv.out; omega) (by have := hs4.out; omega) (by have := hsz4.out; omega) HB.out PB.out (Blk.ow PD.out rfl HL.out (Nat.le_refl _) (by simp [maxLen]; omega))).mono ?_
  rintro x W6 ⟨hb, ⟨rfl, hy⟩ | ⟨c, rfl, hno⟩⟩
  · skip
    have P4a := hid (P4.out.keptP hb (by rintro (h | h); exact absurd (HQ.out _ h) (by omega); exact absurd h (by have := hv.out; have := hs4.out; omega)))
    have P5a := hid (P5.out.keptP hb (by rintro (h | h); exact absurd (HQ.out _ h) (by omega); exact absurd h (by have := hv.out; have := hs4.out; omega)))
    have HYa := hid hy
    clear hy
    have HBa := hid (GrownP.cut HB.out hb (show w.heap.size ≤ min v1.heap.size W4.heap.size by have := hv.out; have := hs4.out; omega))
    clear hb P4 P5 PB PD HB HDO
    have c4 := P4a.out.cell 0
    have f4 := P4a.out.frozen 0
    have c5 := P5a.out.cell 0
    have f5 := P5a.out.frozen 0
    go_upto_region 8 with fail
    go_wp2_with fail
    clear c4 f4 c5 f5
    have P4b := hid ((P4a.out.setCell 0 (ptr W4.heap.size)).far (p := ⟨w.heap.size + 1 + 1, 0, none⟩) (by simp) (.int .i64 0))
    have P5b := hid ((P5a.out.far (p := ⟨w.heap.size + 1, 0, none⟩) (by simp) (ptr W4.heap.size)).setCell 0 (.int .i64 0))
    have HBb := hid ((HBa.out.setCell (p := ⟨w.heap.size + 1, 0, none⟩) (by simp) (ptr W4.heap.size)).setCell (p := ⟨w.heap.size + 1 + 1, 0, none⟩) (by simp; omega) (.int .i64 0))
    have HYb := hid (HST.out _ _ _ ⟨w.heap.size + 1 + 1, 0, none⟩ (.int .i64 0) (HST.out _ _ _ ⟨w.heap.size + 1, 0, none⟩ (ptr W4.heap.size) HYa.out (by simp) (by have := hv.out; have := hs4.out; simp; omega)) (by simp; omega) (by have := hv.out; have := hs4.out; simp; omega))
    clear P4a P5a HBa HYa
    generalize (W6.setCell ⟨w.heap.size + 1, 0, none⟩ (ptr W4.heap.size)).setCell ⟨w.heap.size + 1 + 1, 0, none⟩ (.int .i64 0) = W7 at *
    refine leaves_cons (f := 143) (args := #[ptr (w.heap.size + 1), ptr (w.heap.size + 1 + 1)]) (by simp) (by simp [go_sem]) ?_
    refine (catch_idle _ _ _).mono ?_
    rintro x u' w'' ⟨rfl, rfl, rfl⟩
    have c4 := P4b.out.cell 0
    have c5 := P5b.out.cell 0
    simp [Leaves, settle, results, Tryz.results123, go_sem, c4, c5]
    exact ⟨HBb.out, .inl ⟨_, rfl, _, by have := hv.out; have := hs4.out; omega, Nat.min_le_right _ _, HYb.out⟩⟩
  · skip
    have P4a := hid (P4.out.keptP hb (by rintro (h | h); exact absurd (HQ.out _ h) (by omega); exact absurd h (by have := hv.out; have := hs4.out; omega)))
    have P5a := hid (P5.out.keptP hb (by rintro (h | h); exact absurd (HQ.out _ h) (by omega); exact absurd h (by have := hv.out; have := hs4.out; omega)))
    have HBa := hid (GrownP.cut HB.out hb (show w.heap.size ≤ min v1.heap.size W4.heap.size by have := hv.out; have := hs4.out; omega))
    have HNOa := hid hno
    clear hno hb P4 P5 PB PD HB HDO
    refine leaves_cons (f := 143) (args := #[ptr (w.heap.size + 1), ptr (w.heap.size + 1 + 1)]) (by simp) (by simp [go_sem]) ?_
    refine (catch_panicking (w.heap.size + 1) (w.heap.size + 1 + 1) w.heap.size c _ _ W6 P4a.out P5a.out (by omega) (by omega) HBa.out.size).mono ?_
    rintro x u' w'' ⟨rfl, rfl, gn, hgn, hbb, hbn, hb4, hb5⟩
    have HNO := hid (HSN.out _ _ _ HNOa.out hbb)
    have c4 := hb4.cell 0
    have c5 := hb5.cell 0
    simp [Leaves, settle, results, Tryz.results123, go_sem, c4, c5]
    exact ⟨HBa.out.then_ hbb, .inr ⟨_, _, rfl, HNO.out, by have := HBa.out.size; omega, hbn⟩⟩
end Go.Proofs.YtfipdoofgbjbjaaGreat

/- package grace: the methods of both. No condition but sizes. -/
namespace Go.Proofs.YtfipdoofgbjbjaaGreat
open Go.RowKit
set_option maxRecDepth 100000 in
theorem in_yes (gb : Nat) (now : Int) (A : Option Addr) (n k : Nat) (B : Option Addr) (m d : Nat) (g : Gr) (D : Option Addr) (nd kd : Nat) (E : Option Addr) (ne ke : Nat) (c : Int) (w : World) (P : Blk w gb 160 (bth now A n k B m d g D nd kd E ne ke)) (h : 0 ≤ c ∧ c < nd) :
    Calls Tryz.prog 145 #[ptr gb, .int .i64 c] w fun x w' => x = .returned (.tuple #[]) ∧ w' = w := by
  obtain ⟨y0, y1, y2, y3, y4, y5, y6, y7, yf⟩ := P.cells8
  have d1 : decide (0 ≤ c) = true := decide_eq_true h.1
  have d2 : decide (c < (nd : Int)) = true := decide_eq_true h.2
  have d3 : decide (c ≥ 0) = true := decide_eq_true h.1
  clear h P
  go_enter Tryz.func145, Tryz.ntmps145
  go_wp2_with fail
  refine (need_yes 2 w).mono ?_
  rintro x w' ⟨rfl, rfl⟩
  go_wp2_with fail
  go_end0
  exact ⟨rfl, rfl⟩
set_option maxRecDepth 100000 in
theorem in_no (gb : Nat) (now : Int) (A : Option Addr) (n k : Nat) (B : Option Addr) (m d : Nat) (g : Gr) (D : Option Addr) (nd kd : Nat) (E : Option Addr) (ne ke : Nat) (c : Int) (w : World) (P : Blk w gb 160 (bth now A n k B m d g D nd kd E ne ke)) (h : c < 0 ∨ (nd : Int) ≤ c) :
    Calls Tryz.prog 145 #[ptr gb, .int .i64 c] w fun x w' => x = leaves 2 ∧ w' = w := by
  obtain ⟨y0, y1, y2, y3, y4, y5, y6, y7, yf⟩ := P.cells8
  clear P
  by_cases h0 : 0 ≤ c
  · have d1 : decide (0 ≤ c) = true := decide_eq_true h0
    have d2 : decide (c < (nd : Int)) = false := decide_eq_false (by omega)
    have d3 : decide (c ≥ 0) = true := decide_eq_true h0
    clear h h0
    go_enter Tryz.func145, Tryz.ntmps145
    go_wp2_with fail
    refine (need_no 2 w).mono ?_
    rintro x w' ⟨rfl, rfl⟩
    unfold leaves
    go_wp2_with fail
    exact ⟨rfl, rfl, rfl⟩
  · have d1 : decide (0 ≤ c) = false := decide_eq_false h0
    have d3 : decide (c ≥ 0) = false := decide_eq_false h0
    clear h h0
    go_enter Tryz.func145, Tryz.ntmps145
    go_wp2_with fail
    refine (need_no 2 w).mono ?_
    rintro x w' ⟨rfl, rfl⟩
    unfold leaves
    go_wp2_with fail
    exact ⟨rfl, rfl, rfl⟩
def AskPost (w : World) (gb : Nat) (ak N : Int) (x : Ending) (w' : World) : Prop := x = .returned (.int .i64 N) ∧ ∃ w1, Below w.heap.size w w1 ∧ w' = w1.setCell ⟨gb, 4, none⟩ (.int .i64 (max ak N))
set_option maxRecDepth 100000 in
set_option maxHeartbeats 1000000 in
theorem ask_yes (gb : Nat) (now : Int) (A : Option Addr) (n k : Nat) (B : Option Addr) (m d : Nat) (g : Gr) (D : Option Addr) (nd kd : Nat) (E : Option Addr) (ne ke : Nat) (w : World) (P : Blk w gb 160 (bth now A n k B m d g D nd kd E ne ke)) (h : nextW g ≤ 2147483645) :
    Calls Tryz.prog 141 #[ptr gb] w (AskPost w gb g.ak (nextW g)) := by
  have HP := hid P
  obtain ⟨N, hN⟩ : ∃ N, N = nextW g := ⟨_, rfl⟩
  have HN := hid hN
  rw [← hN] at h ⊢
  have HH := hid h
  obtain ⟨y0, y1, y2, y3, y4, y5, y6, y7, yf⟩ := P.cells8
  clear P hN h
  go_enter Tryz.func141, Tryz.ntmps141
  go_wp2_with fail
  clear y0 y1 y2 y3 y4 y5 y6 y7 yf
  refine (next_any g D nd kd w).mono ?_
  rintro x w1 ⟨rfl, hb⟩
  rw [← HN.out]
  have HB := hid hb
  obtain ⟨y0, y1, y2, y3, y4, y5, y6, y7, yf⟩ := (HP.out.step hb).cells8
  have d1 : decide (N ≤ 2147483645) = true := decide_eq_true HH.out
  clear hb HH
  go_wp2_with fail
  refine (need_yes 6 w1).mono ?_
  rintro x w2 ⟨rfl, rfl⟩
  go_wp2_with fail
  · go_ret
    exact ⟨rfl, w2, HB.out, by rw [show max g.ak N = N by omega]⟩
  · go_ret
    exact ⟨rfl, w2, HB.out, by rw [show max g.ak N = g.ak by omega]⟩
end Go.Proofs.YtfipdoofgbjbjaaGreat

/- package grace: needed, begin, report: CPUs by their places. No condition but sizes. -/
namespace Go.Proofs.YtfipdoofgbjbjaaGreat
open Go.RowKit Go.Shelf
attribute [local go_sem] Oper.semAt_some
/-- all below H but g is kept -/
def KpO (H g : Nat) (A B : World) : Prop := ∀ i, i < H → i ≠ g → B.heap[i]? = A.heap[i]?
theorem KpO.trans {H g : Nat} (A B C : World) (h : KpO H g A B) (k : KpO H g B C) : KpO H g A C := fun i hi hg => (k i hi hg).trans (h i hi hg)
theorem KpO.put {H g l : Nat} (W : World) (o : Obj) (hl : H ≤ l) : KpO H g W (W.putObj l o) := fun i hi _ => World.putObj_heap_other (by omega)
theorem KpO.ofGrown {H g : Nat} {A B : World} (h : A.grownBy B (some g)) (hA : H ≤ A.heap.size) : KpO H g A B := fun i hi hg => h.block i (by omega) (by simpa using hg)
theorem KpO.blk {H g k : Nat} {A B : World} {t : TypeId} {cs : Array Value} (h : KpO H g A B) (hb : Blk A k t cs) (hk : k < H) (hg : k ≠ g) : Blk B k t cs := (h k hk hg).trans hb
theorem GrownP.thenB {q : Nat → Prop} {B : Nat} {w a b : World} (h : GrownP q w a) (k : Below B a b) (hB : w.heap.size ≤ B) : GrownP q w b :=
  ⟨k.os.trans h.os, k.tape.trans h.tape, k.output.trans h.output, Nat.le_trans h.size k.size, fun i hi hq => (k.block i (by omega)).trans (h.block i hi hq)⟩
theorem GrownP.set {q : Nat → Prop} {w a : World} (h : GrownP q w a) {p : Addr} (hp : q p.block) (u : Value) : GrownP q w (a.setCell p u) :=
  ⟨h.os, h.tape, h.output, by simpa using h.size, fun i hi hq => (Below.heap_setCell a p u i (fun e => hq (e ▸ hp))).trans (h.block i hi hq)⟩
theorem GrownP.mono {q r : Nat → Prop} {w a : World} (h : GrownP q w a) (hr : ∀ i, q i → r i) : GrownP r w a :=
  ⟨h.os, h.tape, h.output, h.size, fun i hi hn => h.block i hi (fun hq => hn (hr i hq))⟩
/-- the rest of a both -/
structure Bc where
  now : Int
  A : Option Addr
  n : Nat
  k : Nat
  B : Option Addr
  m : Nat
  d : Nat
  E : Option Addr
  ne : Nat
  ke : Nat
@[reducible] def Bc.cs (c : Bc) (g : Gr) (gd nd kd : Nat) : Array Value := bth c.now c.A c.n c.k c.B c.m c.d g (some ⟨gd, 0, none⟩) nd kd c.E c.ne c.ke
theorem needed_any (gb : Nat) (w : World) : Calls Tryz.prog 153 #[ptr gb] w fun e w' => e = .returned (.func (.func 159) #[] #[ptr w.heap.size]) ∧ w.alloc (.cells #[ptr gb] 154) = w' := by
  go_enter Tryz.func153, Tryz.ntmps153
  go_wp2
  go_ret
  exact ⟨rfl, rfl⟩
set_option maxRecDepth 100000 in
set_option maxHeartbeats 8000000 in
theorem needed_seq (M bx gb gd nd kd : Nat) (c : Bc) (g : Gr) (w0 : World) (hm : 1 ≤ M) (hnd : nd ≤ 1000000)
    (hbx : Blk w0 bx 154 #[ptr gb]) (hP : Blk w0 gb 160 (c.cs g gd nd kd)) (hne : gb ≠ gd) (hne' : bx ≠ gd) :
    FreshSeq Fence.wide M Tryz.prog 159 #[ptr bx] (fun k => #[.int .i64 k, .pointer (some ⟨gd, k, none⟩)]) nd (KpO w0.heap.size gd) w0 := by
  obtain ⟨now, A, n, k, B, m, d, E, ne, ke⟩ := c
  intro l J Jx W hb0 hJB hY hJ0
  refine callsIn_of_wp Tryz.func159 rfl trivial ?_ rfl
  simp only [Tryz.ntmps159, List.size_toArray, List.length_cons, List.length_nil, Nat.reduceAdd, Nat.reduceSub, Array.replicate_succ, Array.replicate_zero, List.push_toArray, List.append_toArray, List.nil_append, List.cons_append]
  have HB0 := hid hb0; have HY := hid hY; have HJ := hid hJ0
  have PX := hid (hbx.below hb0 hbx.lt); have P := hid (hP.below hb0 hP.lt)
  have hL := hid (show bx < w0.heap.size ∧ gb < w0.heap.size from ⟨hbx.lt, hP.lt⟩)
  have hN := hid (show gb ≠ gd ∧ bx ≠ gd from ⟨hne, hne'⟩)
  clear hb0 hJB hY hJ0 hbx hP hne hne'
  obtain ⟨y00, yf0⟩ := PX.out.cells1
  obtain ⟨y10, y11, y12, y13, y14, y15, y16, y17, yf1⟩ := P.out.cells8
  refine wpIn_wide.2 ?_
  go_wp2_with fail
  clear y00 yf0 y10 y11 y12 y13 y14 y15 y16 y17 yf1
  go_loopw [3, 10] (fun _ i wr => ∃ j : Nat, j ≤ nd ∧ i = .int .i64 j ∧ J j wr ∧ Blk wr bx 154 #[ptr gb] ∧ Blk wr gb 160 (bth now A n k B m d g (some ⟨gd, 0, none⟩) nd kd E ne ke)) (fun _ i _ => nd - (intOf i).toNat)
  case atStart => exact ⟨0, Nat.zero_le _, rfl, HJ.out, PX.out, P.out⟩
  case round =>
    clear HJ PX P
    obtain ⟨j, hj, rfl, h1, h2, h3⟩ := hrel
    have HJ := hid h1; have PX := hid h2; have P := hid h3
    clear h1 h2 h3
    by_cases hjn : j < nd
    rotate_left
    · obtain rfl : j = nd := by omega
      have hnn : ¬ ((j : Int) < (j : Int)) := by omega
      go_wp2
      (try simp only [Exit.noGoto])
      go_end0
      exact ⟨⟨_, rfl⟩, .inl HJ.out⟩
    have hji : (j : Int) < (nd : Int) := by omega
    have hw1 : IntKind.i64.wrap ((j : Int) + 1) = (j : Int) + 1 := by rw [IntKind.wrap_i64]; omega
    have hy0 := HY.out j wr hjn HJ.out
    obtain ⟨fn, tmps, assign, body, hy, hR⟩ := hy0
    clear HY
    obtain ⟨y00, yf0⟩ := PX.out.cells1
    obtain ⟨y10, y11, y12, y13, y14, y15, y16, y17, yf1⟩ := P.out.cells8
    go_upto_region 3 with fail
    refine (wpIn_wide (n := M)).1 ?_
    gi_wp2_with fail
    clear y00 yf0 y10 y11 y12 y13 y14 y15 y16 y17 yf1
    refine hR.mono ?_
    rintro e W3 (⟨rfl, hJ3, hk3, hp3⟩ | ⟨rfl, hJx3⟩)
    · gi_wp2
      go_wp2_with fail
      go_roundw
      case rel => exact ⟨j + 1, by omega, by go_num, hJ3, hp3.blk PX.out hL.out.1 hN.out.2, hp3.blk P.out hL.out.2 hN.out.1⟩
      case measure => simp [intOf]; omega
    · gi_wp2
      go_wp2_with fail
      (try rw [Exit.noGoto_ret])
      exact bodyPost_ret (v := .tuple #[]) (by simp [results, Tryz.results159, go_sem]) rfl ⟨⟨_, rfl⟩, .inr ⟨_, hJx3⟩⟩
/-- rows while CPUs are gone through -/
def fillT (xs : List Bool) (k : Nat) : List Bool := List.replicate k true ++ xs.drop k
theorem fillT_set {xs : List Bool} {k : Nat} (h : k < xs.length) : (fillT xs k).set k true = fillT xs (k + 1) := by
  apply List.ext_getElem?
  intro j
  unfold fillT
  rw [List.getElem?_set]
  simp only [List.length_append, List.length_replicate, List.length_drop]
  by_cases e : k = j
  · subst e
    rw [if_pos rfl, if_pos (by omega), List.getElem?_append_left (by simp), List.getElem?_replicate, if_pos (by omega)]
  · rw [if_neg e]
    by_cases e2 : j < k
    · rw [List.getElem?_append_left (by simpa using e2), List.getElem?_append_left (by simp; omega), List.getElem?_replicate, List.getElem?_replicate, if_pos e2, if_pos (by omega)]
    · rw [List.getElem?_append_right (by simp; omega), List.getElem?_append_right (by simp; omega)]
      simp only [List.length_replicate, List.getElem?_drop]
      congr 1; omega
theorem fillT_all (xs : List Bool) : fillT xs xs.length = List.replicate xs.length true := by unfold fillT; simp
def repF (xs : List Bool) (c k : Nat) : List Bool := if c < k then xs.set c false else xs
theorem repF_at {xs : List Bool} {c k : Nat} (h : k ≤ c ∨ c < k) : (repF xs c k)[k]?.getD false = xs[k]?.getD false := by
  unfold repF
  split
  · rw [List.getElem?_set_ne (by omega)]
  · rfl
theorem set_get {xs : List Bool} {k : Nat} : xs.set k (xs[k]?.getD false) = xs := by
  apply List.ext_getElem?
  intro j
  rw [List.getElem?_set]
  by_cases e : k = j
  · subst e
    rw [if_pos rfl]
    split
    · rename_i h; rw [List.getElem?_eq_getElem h]; rfl
    · rename_i h; rw [List.getElem?_eq_none (by omega)]
  · rw [if_neg e]
theorem repF_ne {xs : List Bool} {c k : Nat} (h : k ≠ c) : (repF xs c k).set k (xs[k]?.getD false) = repF xs c (k + 1) := by
  have h1 : repF xs c (k + 1) = repF xs c k := by unfold repF; by_cases e : c < k <;> simp [e] <;> omega
  rw [h1, ← repF_at (c := c) (xs := xs) (k := k) (by omega)]
  exact set_get
theorem repF_ne' {xs : List Bool} {c k : Nat} {v : Bool} (h : k ≠ c) (hv : v = xs[k]?.getD false) : (repF xs c k).set k v = repF xs c (k + 1) := by rw [hv]; exact repF_ne h
theorem repF_eq {xs : List Bool} {c : Nat} : (repF xs c c).set c false = repF xs c (c + 1) := by
  unfold repF; rw [if_neg (by omega), if_pos (by omega)]
theorem repF_all {xs : List Bool} {c : Nat} (h : c < xs.length) : repF xs c xs.length = xs.set c false := by unfold repF; rw [if_pos h]
theorem Ow.atHeap {α : Type} {enc : α → Value} {w w' : World} {lo gd n c : Nat} {e : TypeId} {xs : List α} (h : Ow enc w lo e (some ⟨gd, 0, none⟩) n c xs) (hs : w'.heap[gd]? = w.heap[gd]?) : Ow enc w' lo e (some ⟨gd, 0, none⟩) n c xs := h.same (fun a ha => by cases ha; exact hs)
/-- what a method that changes the grace leaves -/
def ChPost (w : World) (gb gd lo nd kd : Nat) (c : Bc) (g' : Gr) (x : Ending) (w' : World) : Prop :=
  x = .returned (.tuple #[]) ∧ Blk w' gb 160 (c.cs g' gd nd kd) ∧ Ow blv w' lo 4 (some ⟨gd, 0, none⟩) nd kd g'.nd ∧ GrownP (fun i => i = gb ∨ i = gd) w w'
set_option maxRecDepth 100000 in
set_option maxHeartbeats 8000000 in
theorem begin_in (gb gd lo nd kd : Nat) (c : Bc) (g : Gr) (w : World) (hP : Blk w gb 160 (c.cs g gd nd kd)) (hD : Ow blv w lo 4 (some ⟨gd, 0, none⟩) nd kd g.nd) (hne : gb ≠ gd) (hn : nd ≤ 8) :
    CallsIn Fence.wide 5 Tryz.prog 147 #[ptr gb] w (ChPost w gb gd lo nd kd c (gBegin g)) := by
  obtain ⟨now, A, n, k, B, m, d, E, ne, ke⟩ := c
  have HD := hid hD; have P := hid hP; have hl := hid hD.len; have hlt := hid (show gb < w.heap.size ∧ gd < w.heap.size from ⟨hP.lt, by obtain ⟨h1, cs, h2⟩ := hD.blk _ rfl; exact h2.lt⟩)
  clear hD hP
  refine callsIn_of_wp_marks Tryz.func147 rfl trivial ?_ rfl
  simp only [Tryz.ntmps147, List.size_toArray, List.length_cons, List.length_nil, Nat.reduceAdd, Nat.reduceSub, Array.replicate_succ, Array.replicate_zero, List.push_toArray, List.append_toArray, List.nil_append, List.cons_append]
  refine wpIn_wide.2 ?_
  go_wp2_with fail
  refine (needed_any gb w).mono ?_
  rintro e W1' ⟨rfl, hw1⟩
  have bx := below_box w (.cells #[ptr gb] 154)
  replace HD := hid (HD.out.step bx); replace P := hid (P.out.step bx)
  clear bx
  have PX := hid (Blk.new w 154 #[ptr gb])
  have HBB := hid (below_box w (.cells #[ptr gb] 154))
  have hz1 := hid (show (w.alloc (.cells #[ptr gb] 154)).heap.size = w.heap.size + 1 by simp)
  subst hw1
  go_wp2_with fail
  generalize w.alloc (.cells #[ptr gb] 154) = W1 at *
  have hsz := hz1.out
  have hlt1 := hlt.out
  refine (wpIn_wide (n := 5)).1 ?_
  refine' wpIn_rangeFunc_fresh rfl (by omega) (gf := 159) (lb := #[ptr w.heap.size]) rfl trivial (enters_of Tryz.func159 (by kernel_rfl) rfl)
    (needed_seq (5 - 1) w.heap.size gb gd nd kd ⟨now, A, n, k, B, m, d, E, ne, ke⟩ g W1 (by omega) (by omega) PX.out P.out hne (by omega)) (Below.refl _ _) (fun _ => rfl)
    (fun A B C => KpO.trans A B C) (fun W l o hl => KpO.put W o hl)
    (fun j W => Ow blv W lo 4 (some ⟨gd, 0, none⟩) nd kd (fillT g.nd j) ∧ Blk W gb 160 (bth now A n k B m d g (some ⟨gd, 0, none⟩) nd kd E ne ke) ∧ GrownP (fun i => i = gb ∨ i = gd) w W) (fun _ _ _ => False)
    (fun j A' B' hI hb => ⟨hI.1.atHeap (hb.block _ (by omega)), hI.2.1.below hb (by omega), hI.2.2.thenB hb (by omega)⟩) (fun _ _ _ _ h _ => h) ⟨HD.out, P.out, .ofBelow HBB.out⟩ _ ?assign ?body ?done ?stop
  all_goals clear hsz hlt1
  case assign =>
    intro l' k' W K hK
    have HK := hid hK
    clear hK
    gi_wp2_with fail
    exact HK.out
  case stop => exact fun _ _ _ _ _ h => h.elim
  case body =>
    rintro l' j W hk hW1 ⟨h1, h2, h3⟩
    have HO := hid h1; have P1 := hid h2; have HGP := hid h3
    obtain ⟨gq, hgq, _, _, c0, f0⟩ := h1.at_ false hk
    cases hgq
    clear h1 h2 h3
    gi_wp2_with fail
    clear c0 f0
    have hgr := grown_set (World.grownBy.refl W (some gd)) j (.bool true)
    have hs1 := hz1.out; have hs2 := hlt.out
    exact ⟨KeptFrom.ofGrown hgr (by omega), ⟨by rw [← fillT_set (by rw [hl.out]; exact hk)]; exact HO.out.stored j true, P1.out.far (p := ⟨gd, j, none⟩) hne _, HGP.out.set (p := ⟨gd, j, none⟩) (.inr rfl) _⟩, KpO.ofGrown hgr hW1⟩
  case done =>
    rintro b W hb ⟨h1, h2, h3⟩ hD
    have HO := hid h1; have P1 := hid h2; have HGP := hid h3; have hs1 := hz1.out; have hs2 := hlt.out
    have HDF := hid (show (W.setCell ⟨gb, 5, none⟩ (.bool true)).heap[b]? = some (.deferred (some [])) from (Below.heap_setCell W ⟨gb, 5, none⟩ (.bool true) b (by simp; omega)).trans hD)
    clear h1 h2 h3 hD
    obtain ⟨y00, y01, y02, y03, y04, y05, y06, y07, yf0⟩ := P1.out.cells8
    go_wp2
    clear y00 y01 y02 y03 y04 y05 y06 y07 yf0
    refine ⟨by simp, .inl ⟨_, _, rfl, run_takeDeferred HDF.out, ?_⟩⟩
    refine ⟨.tuple #[], (by simp [results, Tryz.results147, go_sem]), rfl, ?_, ?_, ?_⟩
    · exact (P1.out.setCell 5 (.bool true)).below (below_put (B := W1.heap.size) (l := b) _ (by omega)) (by omega)
    · have hq := HO.out
      rw [show fillT g.nd nd = (gBegin g).nd from by rw [← hl.out]; exact fillT_all _] at hq
      exact (hq.atHeap (Below.heap_setCell W ⟨gb, 5, none⟩ (.bool true) gd (by simp; omega))).atHeap (World.putObj_heap_other (show gd ≠ b by omega))
    · exact (HGP.out.set (p := ⟨gb, 5, none⟩) (.inl rfl) _).thenB (below_put (B := W1.heap.size) (l := b) _ (by omega)) (by omega)
set_option maxRecDepth 100000 in
set_option maxHeartbeats 8000000 in
theorem report_in (gb gd lo nd kd cp : Nat) (c : Bc) (g : Gr) (w : World) (hP : Blk w gb 160 (c.cs g gd nd kd)) (hD : Ow blv w lo 4 (some ⟨gd, 0, none⟩) nd kd g.nd) (hne : gb ≠ gd) (hn : nd ≤ 8) (hcp : cp < nd) (hdn : wrap64 (g.dn + 1) = g.dn + 1) :
    CallsIn Fence.wide 5 Tryz.prog 146 #[ptr gb, .int .i64 cp] w (ChPost w gb gd lo nd kd c (gReport g cp)) := by
  obtain ⟨now, A, n, k, B, m, d, E, ne, ke⟩ := c
  have HD := hid hD; have P := hid hP; have hl := hid hD.len; have hDN := hid hdn; have hlt := hid (show gb < w.heap.size ∧ gd < w.heap.size from ⟨hP.lt, by obtain ⟨h1, cs, h2⟩ := hD.blk _ rfl; exact h2.lt⟩)
  clear hD hP hdn
  have bx := below_box w (.cells #[.int .i64 cp] 3)
  replace HD := hid (HD.out.step bx); replace P := hid (P.out.step bx)
  clear bx
  have PC := hid (Blk.new w 3 #[.int .i64 cp])
  have HBA := below_box w (.cells #[.int .i64 cp] 3)
  refine callsIn_of_wp_marks Tryz.func146 rfl trivial ?_ rfl
  simp only [Tryz.ntmps146, List.size_toArray, List.length_cons, List.length_nil, Nat.reduceAdd, Nat.reduceSub, Array.replicate_succ, Array.replicate_zero, List.push_toArray, List.append_toArray, List.nil_append, List.cons_append]
  refine wpIn_wide.2 ?_
  go_wp2_with fail
  have hz0 := hid (show (w.alloc (.cells #[.int .i64 cp] 3)).heap.size = w.heap.size + 1 by simp)
  generalize w.alloc (.cells #[.int .i64 cp] 3) = W0 at *
  refine (needed_any gb W0).mono ?_
  rintro e W1' ⟨rfl, hw1⟩
  have bx := below_box W0 (.cells #[ptr gb] 154)
  replace HD := hid (HD.out.step bx); replace P := hid (P.out.step bx); replace PC := hid (PC.out.step bx)
  clear bx
  have PX := hid (Blk.new W0 154 #[ptr gb])
  have HBB := hid (below_then HBA (below_box W0 (.cells #[ptr gb] 154)))
  have hz1 := hid (show (W0.alloc (.cells #[ptr gb] 154)).heap.size = w.heap.size + 2 by have := hz0.out; simp; omega)
  subst hw1
  go_wp2_with fail
  generalize W0.alloc (.cells #[ptr gb] 154) = W1 at *
  clear HBA
  have hsz := hz1.out; have hsz0 := hz0.out
  have hlt1 := hlt.out
  refine (wpIn_wide (n := 5)).1 ?_
  refine' wpIn_rangeFunc_fresh rfl (by omega) (gf := 159) (lb := #[ptr W0.heap.size]) rfl trivial (enters_of Tryz.func159 (by kernel_rfl) rfl)
    (needed_seq (5 - 1) W0.heap.size gb gd nd kd ⟨now, A, n, k, B, m, d, E, ne, ke⟩ g W1 (by omega) (by omega) PX.out P.out hne (by omega)) (Below.refl _ _) (fun _ => rfl)
    (fun A B C => KpO.trans A B C) (fun W l o hl => KpO.put W o hl)
    (fun j W => Ow blv W lo 4 (some ⟨gd, 0, none⟩) nd kd (repF g.nd cp j) ∧ Blk W gb 160 (bth now A n k B m d g (some ⟨gd, 0, none⟩) nd kd E ne ke) ∧ Blk W w.heap.size 3 #[.int .i64 cp] ∧ GrownP (fun i => i = gb ∨ i = gd) w W) (fun _ _ _ => False)
    (fun j A' B' hI hb => ⟨hI.1.atHeap (hb.block _ (by omega)), hI.2.1.below hb (by omega), hI.2.2.1.below hb (by omega), hI.2.2.2.thenB hb (by omega)⟩) (fun _ _ _ _ h _ => h) ⟨HD.out, P.out, PC.out, .ofBelow HBB.out⟩ _ ?assign ?body ?done ?stop
  all_goals clear hsz hlt1 hsz0
  case assign =>
    intro l' k' W K hK
    have HK := hid hK
    clear hK
    gi_wp2_with fail
    exact HK.out
  case stop => exact fun _ _ _ _ _ h => h.elim
  case body =>
    rintro l' j W hk hW1 ⟨h1, h2, h3, h4⟩
    have HO := hid h1; have P1 := hid h2; have PC1 := hid h3; have HGP := hid h4
    obtain ⟨gq, hgq, _, _, c0, f0⟩ := h1.at_ false hk
    cases hgq
    rw [repF_at (by omega)] at c0
    obtain ⟨v, hv⟩ : ∃ v, v = g.nd[j]?.getD false := ⟨_, rfl⟩
    rw [← hv] at c0
    have HV := hid hv
    clear h1 h2 h3 h4 hv
    have hdl : (j : Int) < 9223372036854775807 := by omega
    by_cases hjc : j = cp
    · subst hjc
      have d1 : ((j : Int) != (j : Int)) = false := by simp
      obtain ⟨y10, yf1⟩ := PC1.out.cells1
      simp only [blv] at c0
      rcases v with _ | _
      · skip
        clear d1 y10 yf1
        gi_wp2_with fail
        clear c0 f0
        have hgr := grown_set (World.grownBy.refl W (some gd)) j (.bool false)
        have hs1 := hz1.out; have hs2 := hlt.out
        refine ⟨KeptFrom.ofGrown hgr (by omega), ⟨?_, P1.out.far (p := ⟨gd, j, none⟩) hne _, PC1.out.far (p := ⟨gd, j, none⟩) (by simp; omega) _, HGP.out.set (p := ⟨gd, j, none⟩) (.inr rfl) _⟩, KpO.ofGrown hgr hW1⟩
        have hst := HO.out.stored j false
        rw [repF_eq] at hst
        exact hst
      · skip
        gi_wp2_with fail
        clear c0 f0
        have hgr := grown_set (World.grownBy.refl W (some gd)) j (.bool false)
        have hs1 := hz1.out; have hs2 := hlt.out
        refine ⟨KeptFrom.ofGrown hgr (by omega), ⟨?_, P1.out.far (p := ⟨gd, j, none⟩) hne _, PC1.out.far (p := ⟨gd, j, none⟩) (by simp; omega) _, HGP.out.set (p := ⟨gd, j, none⟩) (.inr rfl) _⟩, KpO.ofGrown hgr hW1⟩
        have hst := HO.out.stored j false
        rw [repF_eq] at hst
        exact hst
    have d1 : ((j : Int) != (cp : Int)) = true := by simp; omega
    obtain ⟨y10, yf1⟩ := PC1.out.cells1
    simp only [blv] at c0
    rcases v with _ | _
    · skip
      clear d1 y10 yf1
      gi_wp2_with fail
      clear c0 f0
      have hgr := grown_set (World.grownBy.refl W (some gd)) j (.bool false)
      have hs1 := hz1.out; have hs2 := hlt.out
      refine ⟨KeptFrom.ofGrown hgr (by omega), ⟨?_, P1.out.far (p := ⟨gd, j, none⟩) hne _, PC1.out.far (p := ⟨gd, j, none⟩) (by simp; omega) _, HGP.out.set (p := ⟨gd, j, none⟩) (.inr rfl) _⟩, KpO.ofGrown hgr hW1⟩
      have hst := HO.out.stored j false
      rw [repF_ne' hjc HV.out] at hst
      exact hst
    · skip
      gi_wp2_with fail
      clear c0 f0
      have hgr := grown_set (World.grownBy.refl W (some gd)) j (.bool true)
      have hs1 := hz1.out; have hs2 := hlt.out
      refine ⟨KeptFrom.ofGrown hgr (by omega), ⟨?_, P1.out.far (p := ⟨gd, j, none⟩) hne _, PC1.out.far (p := ⟨gd, j, none⟩) (by simp; omega) _, HGP.out.set (p := ⟨gd, j, none⟩) (.inr rfl) _⟩, KpO.ofGrown hgr hW1⟩
      have hst := HO.out.stored j true
      rw [repF_ne' hjc HV.out] at hst
      exact hst
  case done =>
    rintro b W hb ⟨h1, h2, h3, h4⟩ hDf
    have hq := h1
    have hln := hl.out
    rw [← hln, repF_all (by omega), hln] at hq
    have HO := hid hq; have P1 := hid h2; have HGP := hid h4; have HDF := hid hDf
    clear h1 h2 h3 h4 hDf hq hln
    obtain ⟨g2, hg2⟩ : ∃ g2 : Gr, g2 = { g with nd := g.nd.set cp false } := ⟨_, rfl⟩
    have hRep : gReport g cp = if gIdle g2.nd then { g2 with dn := g2.dn + 1, on := false } else g2 := by rw [hg2]; rfl
    have P2 := hid (show Blk W gb 160 (bth now A n k B m d g2 (some ⟨gd, 0, none⟩) nd kd E ne ke) by rw [hg2]; exact P1.out)
    have HO2 := hid (show Ow blv W lo 4 (some ⟨gd, 0, none⟩) nd kd g2.nd by rw [hg2]; exact HO.out)
    have hDN2 := hid (show wrap64 (g2.dn + 1) = g2.dn + 1 by rw [hg2]; exact hDN.out)
    clear hg2 HO P1
    have HR := hid hRep
    clear hRep
    obtain ⟨y00, y01, y02, y03, y04, y05, y06, y07, yf0⟩ := P2.out.cells8
    go_wp2_with fail
    clear y00 y01 y02 y03 y04 y05 y06 y07 yf0
    refine (idle_any g2 (some ⟨gd, 0, none⟩) nd kd lo W HO2.out.sl (by omega)).mono ?_
    rintro x W2 ⟨rfl, hb2⟩
    have P3 := hid (P2.out.step hb2); have HO3 := hid (HO2.out.step hb2)
    have hbW := hid (show b < W.heap.size from (Array.getElem?_eq_some_iff.1 HDF.out).1)
    have HD3 := hid (show W2.heap[b]? = some (.deferred (some [])) from (hb2.block _ hbW.out).trans HDF.out)
    have HG3 := hid (HGP.out.thenB hb2 HGP.out.size)
    have hs1 := hid (show W1.heap.size ≤ b from hb)
    clear hb2 P2 HO2 HDF HGP
    obtain ⟨i, hi⟩ : ∃ i, i = gIdle g2.nd := ⟨_, rfl⟩
    rw [← hi]
    rw [← hi] at HR
    obtain ⟨dn1, hdn1⟩ : ∃ x, wrap64 (g2.dn + 1) = x := ⟨_, rfl⟩
    have e1 := hdn1
    have e3 := hDN2.out
    rw [hdn1] at e3
    rw [← e3] at HR
    clear hi e3 hdn1
    rcases i with _ | _
    · skip
      obtain ⟨y00, y01, y02, y03, y04, y05, y06, y07, yf0⟩ := P3.out.cells8
      go_wp2
      clear y00 y01 y02 y03 y04 y05 y06 y07 yf0
      rw [HR.out]
      have hs2 := hz1.out; have hs3 := hlt.out; have hs4 := hs1.out; have hs5 := hbW.out
      refine ⟨by simp, .inl ⟨_, _, rfl, run_takeDeferred HD3.out, ?_⟩⟩
      refine ⟨.tuple #[], (by simp [results, Tryz.results146, go_sem]), rfl, ?_, ?_, ?_⟩
      · exact P3.out.below (below_put (B := W1.heap.size) (l := b) _ (by omega)) (by omega)
      · exact HO3.out.atHeap (World.putObj_heap_other (show gd ≠ b by omega))
      · exact HG3.out.thenB (below_put (B := W1.heap.size) (l := b) _ (by omega)) (by omega)
    · skip
      obtain ⟨y00, y01, y02, y03, y04, y05, y06, y07, yf0⟩ := P3.out.cells8
      go_wp2
      clear y00 y01 y02 y03 y04 y05 y06 y07 yf0
      rw [HR.out]
      (try rw [e1])
      have hs2 := hz1.out; have hs3 := hlt.out; have hs4 := hs1.out; have hs5 := hbW.out
      have HD4 := hid (show ((W2.setCell ⟨gb, 3, none⟩ (.int .i64 dn1)).setCell ⟨gb, 5, none⟩ (.bool false)).heap[b]? = some (.deferred (some [])) from ((Below.heap_setCell _ ⟨gb, 5, none⟩ (.bool false) b (by simp; omega)).trans (Below.heap_setCell W2 ⟨gb, 3, none⟩ (.int .i64 dn1) b (by simp; omega))).trans HD3.out)
      refine ⟨by simp, .inl ⟨_, _, rfl, run_takeDeferred HD4.out, ?_⟩⟩
      refine ⟨.tuple #[], (by simp [results, Tryz.results146, go_sem]), rfl, ?_, ?_, ?_⟩
      · exact ((P3.out.setCell 3 (.int .i64 dn1)).setCell 5 (.bool false)).below (below_put (B := W1.heap.size) (l := b) _ (by omega)) (by omega)
      · exact ((HO3.out.atHeap (Below.heap_setCell W2 ⟨gb, 3, none⟩ (.int .i64 dn1) gd (by simp; omega))).atHeap (Below.heap_setCell _ ⟨gb, 5, none⟩ (.bool false) gd (by simp; omega))).atHeap (World.putObj_heap_other (show gd ≠ b by omega))
      · exact ((HG3.out.set (p := ⟨gb, 3, none⟩) (.inl rfl) _).set (p := ⟨gb, 5, none⟩) (.inl rfl) _).thenB (below_put (B := W1.heap.size) (l := b) _ (by omega)) (by omega)
theorem begin_any (gb gd lo nd kd : Nat) (c : Bc) (g : Gr) (w : World) (hP : Blk w gb 160 (c.cs g gd nd kd)) (hD : Ow blv w lo 4 (some ⟨gd, 0, none⟩) nd kd g.nd) (hne : gb ≠ gd) (hn : nd ≤ 8) :
    Calls Tryz.prog 147 #[ptr gb] w (ChPost w gb gd lo nd kd c (gBegin g)) := callsIn_wide.1 (begin_in gb gd lo nd kd c g w hP hD hne hn)
theorem report_any (gb gd lo nd kd cp : Nat) (c : Bc) (g : Gr) (w : World) (hP : Blk w gb 160 (c.cs g gd nd kd)) (hD : Ow blv w lo 4 (some ⟨gd, 0, none⟩) nd kd g.nd) (hne : gb ≠ gd) (hn : nd ≤ 8) (hcp : cp < nd) (hdn : wrap64 (g.dn + 1) = g.dn + 1) :
    Calls Tryz.prog 146 #[ptr gb, .int .i64 cp] w (ChPost w gb gd lo nd kd c (gReport g cp)) := callsIn_wide.1 (report_in gb gd lo nd kd cp c g w hP hD hne hn hcp hdn)
end Go.Proofs.YtfipdoofgbjbjaaGreat

/- package reader: hand's step. No condition but sizes, and that rows hold numbers up to 8. -/
namespace Go.Proofs.YtfipdoofgbjbjaaGreat
open Go.RowKit Go.Shelf Go.Maps

def stepCode (now : Int) (ns : List Int) (cpu : Int) (ent : Bool) : Int :=
  if cpu < 0 ∨ (ns.length : Int) ≤ cpu then 2 else if now = 2147483647 then 6 else if ent = true then (if ns[cpu.toNat]?.getD 0 = 8 then 6 else 0) else (if ns[cpu.toNat]?.getD 0 = 0 then 4 else 0)
def stepNs (ns : List Int) (k : Nat) (ent : Bool) : List Int := ns.set k (if ent = true then ns[k]?.getD 0 + 1 else ns[k]?.getD 0 - 1)
def stepOs (now : Int) (ns os : List Int) (k : Nat) (ent : Bool) : List Int := if ent = true then enterO now (ns[k]?.getD 0) os k else leaveO (ns[k]?.getD 0) os k
def StepPost (W : World) (lo g : Nat) (now : Int) (A : Option Addr) (n c : Nat) (B : Option Addr) (d : Nat) (ns os : List Int) (cpu : Int) (ent : Bool) (e : Ending) (W' : World) : Prop :=
  e = .returned (.int .i64 (stepCode now ns cpu ent)) ∧ Below lo W W' ∧ (stepCode now ns cpu ent = 0 → Hand W' lo g (now + 1) A n c B d (stepNs ns cpu.toNat ent) (stepOs now ns os cpu.toNat ent))
@[reducible] def rdv (cpu : Int) (ent : Bool) : Value := .agg #[.int .i64 cpu, .bool ent]

set_option maxHeartbeats 4000000 in
theorem step_any (g : Nat) (lo : Nat) (now : Int) (A : Option Addr) (n c : Nat) (B : Option Addr) (d : Nat) (ns os : List Int) (cpu : Int) (ent : Bool) (W : World) (h : Hand W lo g now A n c B d ns os) (hlo : lo ≤ W.heap.size) (hn0 : 0 ≤ now) (hn1 : now ≤ 2147483647) (h8 : ∀ k, k < n → 0 ≤ ns[k]?.getD 0 ∧ ns[k]?.getD 0 ≤ 8) (hn : n ≤ 1000) :
    Calls Tryz.prog 152 #[.pointer (some ⟨g, 0, none⟩), rdv cpu ent] W (StepPost W lo g now A n c B d ns os cpu ent) := by
  have hb := below_box W (.cells #[.int .i64 cpu, .bool ent] 87)
  have hB : Below lo W (W.alloc (.cells #[.int .i64 cpu, .bool ent] 87)) := hb.mono hlo
  have h1 := h.step hb
  have PX := Blk.new W 87 #[.int .i64 cpu, .bool ent]
  obtain ⟨k0, k1, k2, kf⟩ := h1.box.cells3
  obtain ⟨r0, r1, rf⟩ := PX.cells2
  have hl := h.oa.len
  have H1 := hid h1; have H8 := hid h8; have HB := hid hB
  clear h hb PX h8 h1 hB
  by_cases c1 : cpu < 0
  · have E := hid (show stepCode now ns cpu ent = 2 by unfold stepCode; rw [if_pos (.inl c1)])
    clear hl
    go_enter Tryz.func152, Tryz.ntmps152
    go_wp2
    go_quiet (fail)
    go_wp2
    go_ret
    exact ⟨ret_int E.out.symm, below_drewN HB.out _, fun hz => by rw [E.out] at hz; omega⟩
  have c1' : decide (cpu < 0) = false := decide_eq_false c1
  obtain ⟨k, rfl⟩ := Int.eq_ofNat_of_zero_le (by omega : 0 ≤ cpu)
  by_cases c2 : k < n
  · have hlt : ¬ ((k : Int) < 0 ∨ (ns.length : Int) ≤ k) := by omega
    have HLT := hid hlt
    clear hlt hl
    by_cases c3 : now = 2147483647
    · have E := hid (show stepCode now ns k ent = 6 by unfold stepCode; rw [if_neg HLT.out, if_pos c3])
      have c3' : (now == 2147483647) = true := by simp [c3]
      clear c3
      go_enter Tryz.func152, Tryz.ntmps152
      go_wp2
      go_quiet (fail)
      go_wp2
      go_ret
      exact ⟨ret_int E.out.symm, below_drewN HB.out _, fun hz => by rw [E.out] at hz; omega⟩
    · have E0 := hid (show stepCode now ns k ent = if ent = true then (if ns[k]?.getD 0 = 8 then 6 else 0) else (if ns[k]?.getD 0 = 0 then 4 else 0) by unfold stepCode; rw [if_neg HLT.out, if_neg c3]; rfl)
      have c3' : (now == 2147483647) = false := by simp [c3]
      have hn2 : now < 2147483647 := by omega
      have hx := H8.out k c2
      have HX := hid hx
      clear c3 hx
      cases ent
      · by_cases c4 : ns[k]?.getD 0 = 0
        · have E := hid (show stepCode now ns k false = 4 by rw [E0.out, if_neg (by simp), if_pos c4])
          have HC := hid c4
          clear c4
          go_enter Tryz.func152, Tryz.ntmps152
          go_wp2
          go_quiet (fail)
          go_wp2_with fail
          refine (leave_none g lo now A n c B d ns os k _ (H1.out.step (below_drewN (Below.refl _ _) _)) c2 HC.out).mono ?_
          rintro e w' ⟨rfl, rfl⟩
          go_wp2
          go_ret
          exact ⟨ret_int E.out.symm, below_drewN HB.out _, fun hz => by rw [E.out] at hz; omega⟩
        · have E := hid (show stepCode now ns k false = 0 by rw [E0.out, if_neg (by simp), if_neg c4])
          have HC := hid c4
          clear c4
          go_enter Tryz.func152, Tryz.ntmps152
          go_wp2
          go_quiet (fail)
          go_wp2_with fail
          refine (leave_ok g lo now A n c B d ns os k _ (H1.out.step (below_drewN (Below.refl _ _) _)) c2 (by have := HX.out; have := HC.out; omega) (by have := HX.out; have := HC.out; omega) hn0 hn2).mono ?_
          rintro e w' ⟨rfl, hH, hb, hs⟩
          have HH := hid hH; have HS := hid hs; clear hH hs
          go_wp2
          go_ret
          exact ⟨ret_int E.out.symm, (below_drewN HB.out _).trans hb, fun _ => HH.out⟩
      · by_cases c4 : ns[k]?.getD 0 = 8
        · have E := hid (show stepCode now ns k true = 6 by rw [E0.out, if_pos rfl, if_pos c4])
          have HC := hid c4
          clear c4
          go_enter Tryz.func152, Tryz.ntmps152
          go_wp2
          go_quiet (fail)
          go_wp2_with fail
          refine (enter_full g lo now A n c B d ns os k _ (H1.out.step (below_drewN (Below.refl _ _) _)) c2 HC.out).mono ?_
          rintro e w' ⟨rfl, rfl⟩
          go_wp2
          go_ret
          exact ⟨ret_int E.out.symm, below_drewN HB.out _, fun hz => by rw [E.out] at hz; omega⟩
        · have E := hid (show stepCode now ns k true = 0 by rw [E0.out, if_pos rfl, if_neg c4])
          have HC := hid c4
          clear c4
          go_enter Tryz.func152, Tryz.ntmps152
          go_wp2
          go_quiet (fail)
          go_wp2_with fail
          refine (enter_ok g lo now A n c B d ns os k _ (H1.out.step (below_drewN (Below.refl _ _) _)) c2 (by have := HX.out; have := HC.out; omega) (by have := HX.out; have := HC.out; omega) hn0 hn2).mono ?_
          rintro e w' ⟨rfl, hH, hb, hs⟩
          have HH := hid hH; have HS := hid hs; clear hH hs
          go_wp2
          go_ret
          exact ⟨ret_int E.out.symm, (below_drewN HB.out _).trans hb, fun _ => HH.out⟩
  · have E := hid (show stepCode now ns k ent = 2 by unfold stepCode; rw [if_pos (.inr (by omega))])
    clear hl
    go_enter Tryz.func152, Tryz.ntmps152
    go_wp2
    go_quiet (fail)
    go_wp2
    go_ret
    exact ⟨ret_int E.out.symm, below_drewN HB.out _, fun hz => by rw [E.out] at hz; omega⟩
end Go.Proofs.YtfipdoofgbjbjaaGreat

/- package reader: Run. No condition but sizes. -/
namespace Go.Proofs.YtfipdoofgbjbjaaGreat
open Go.RowKit Go.Shelf Go.Maps

abbrev St := Int × List Int × List Int
def encR (x : Int × Bool) (j : Nat) : Value := if j = 0 then .int .i64 x.1 else .bool x.2
def stC (s : St) (x : Int × Bool) : Int := stepCode s.1 s.2.1 x.1 x.2
def stN (s : St) (x : Int × Bool) : St := (s.1 + 1, stepNs s.2.1 x.1.toNat x.2, stepOs s.1 s.2.1 s.2.2 x.1.toNat x.2)
/-- steps, one by one: the error, how many were looked at, the readers -/
def runA (s : St) : List (Int × Bool) → Int → Int × Int × St
  | [], i => (0, i, s)
  | x :: l, i => if stC s x = 0 then runA (stN s x) l (i + 1) else (stC s x, i + 1, (0, [], []))
def runF (now : Int) (ns os : List Int) (l : List (Int × Bool)) : Int × Int × St := if Good now ns os then runA (now, ns, os) l 0 else (210, 0, (0, [], []))

/-- readers of one's own -/
structure Rown (W : World) (lo : Nat) (A : Option Addr) (n c : Nat) (B : Option Addr) (m d : Nat) (ns os : List Int) : Prop where
  oa : Ow i64 W lo 3 A n c ns
  ob : Ow i64 W lo 3 B m d os
  apart : ∀ ga gb, A = some ⟨ga, 0, none⟩ → B = some ⟨gb, 0, none⟩ → ga ≠ gb
  hn : n ≤ 1000
  hm : m ≤ 1000
section
variable {W W' : World} {lo lo' : Nat} {A : Option Addr} {n c : Nat} {B : Option Addr} {m d : Nat} {ns os : List Int}
theorem Rown.step (h : Rown W lo A n c B m d ns os) (hb : Below W.heap.size W W') : Rown W' lo A n c B m d ns os := ⟨h.oa.step hb, h.ob.step hb, h.apart, h.hn, h.hm⟩
theorem Rown.mono (h : Rown W lo A n c B m d ns os) (hl : lo' ≤ lo) : Rown W lo' A n c B m d ns os := ⟨h.oa.mono hl, h.ob.mono hl, h.apart, h.hn, h.hm⟩
theorem Rown.rds (h : Rown W lo A n c B m d ns os) : Rds W A n c B m d ns os := ⟨(h.oa.sl (d := 0)).mono (Nat.zero_le _) (Nat.le_refl _), (h.ob.sl (d := 0)).mono (Nat.zero_le _) (Nat.le_refl _), h.oa.cap.1, h.ob.cap.1, h.hn, h.hm⟩
theorem Rown.none (W : World) (lo : Nat) : Rown W lo none 0 0 none 0 0 [] [] := ⟨Ow.nil _ _ _, Ow.nil _ _ _, fun _ _ h => by simp at h, Nat.zero_le _, Nat.zero_le _⟩
end
def RunPost (W : World) (r : Int × Int × St) (e : Ending) (W' : World) : Prop :=
  ∃ A n c B m d, e = .returned (.tuple #[rv r.2.2.1 A n c B m d, .int .i64 r.2.1, .int .i64 r.1]) ∧ Rown W' W.heap.size A n c B m d r.2.2.2.1 r.2.2.2.2 ∧ Below W.heap.size W W'

set_option maxHeartbeats 400000 in
theorem owned_any (A : Option Addr) (n c lo : Nat) (xs : List Int) (w : World) (h : Sl i64 0 w lo w.heap.size A n xs) (hn : n ≤ 1000) :
    Calls Tryz.prog 151 #[.slice A n c] w fun e w' => ∃ A' c', e = .returned (.slice A' n c') ∧ Ow i64 w' w.heap.size 3 A' n c' xs ∧ Below w.heap.size w w' := by
  obtain ⟨i0, hi0, hz00, hz01, hz02⟩ := info_parts info_int
  go_enter Tryz.func151, Tryz.ntmps151
  go_wp2_with (at_builtin; refine wpList_app i64 0 _ rfl _ _ 22 rfl w.heap.size 3 i0 _ 8 Tryz.underlying22 hi0 hz00 hz01 hz02 rfl _ _ _ [] rfl (Ow.nil w _ _) lo w.heap.size A n c xs rfl h one_i64 (by simp only [maxLen]; omega) (by omega) (by simp) ?_; intro A1 c1 w1 hown1 hg1 hat1; simp only [Nat.zero_add, List.nil_append] at hown1)
  go_ret
  exact ⟨A1, c1, by simp, hown1, (Below.refl _ w).grown hg1 (Nat.le_refl _) (fun k hk => by simp [Value.ownBlock] at hk)⟩

set_option maxHeartbeats 1000000 in
theorem run_bad (now : Int) (A : Option Addr) (n c : Nat) (B : Option Addr) (m d : Nat) (ns os : List Int) (L : Option Addr) (k kc : Nat) (ls : List (Int × Bool)) (w : World) (h : Rds w A n c B m d ns os) (hg : ¬ Good now ns os) :
    Calls Tryz.prog 139 #[rv now A n c B m d, .slice L k kc] w (RunPost w (runF now ns os ls)) := by
  have hbx := below_then (below_box w (.cells (rcs now A n c B m d) 24)) (below_box _ (.cells (rcs 0 none 0 0 none 0 0) 24))
  have h0 := h.step hbx
  have P := (Blk.new w 24 (rcs now A n c B m d)).step (below_box _ (.cells (rcs 0 none 0 0 none 0 0) 24))
  have P' := Blk.new2 w 24 (rcs 0 none 0 0 none 0 0) (.cells (rcs now A n c B m d) 24)
  have H := hid (check_bad now A n c B m d ns os _ h0 hg)
  have E := hid (show runF now ns os ls = (210, 0, (0, [], [])) from if_neg hg)
  obtain ⟨k0, k1, k2, kf⟩ := P.cells3
  clear h h0 hg
  go_enter Tryz.func139, Tryz.ntmps139
  go_wp2_with fail
  refine H.out.mono ?_
  rintro e w1 ⟨rfl, hb⟩
  replace hbx := below_then hbx hb
  have PZ := P'.step hb
  obtain ⟨r0, r1, r2, rf⟩ := PZ.cells3
  have HZ := hid PZ
  clear k0 k1 k2 kf P P' hb H PZ
  go_wp2
  have q := ((HZ.out.setCell 0 (.int .i64 0)).setCell 1 (.slice none 0 0)).setCell 2 (.slice none 0 0)
  obtain ⟨q0, q1, q2, qf⟩ := q.cells3
  refine bodyPost_ret (v := .tuple #[rv 0 none 0 0 none 0 0, .int .i64 0, .int .i64 210]) (by simp [results, Tryz.results139, go_sem, q0, q1, q2]) rfl ⟨none, 0, 0, none, 0, 0, by rw [E.out], by rw [E.out]; exact Rown.none _ _, ?_⟩
  exact ((hbx.setCell (by simp) _).setCell (by simp) _).setCell (by simp) _

def SInv (n : Nat) (s : St) : Prop := 0 ≤ s.1 ∧ s.1 ≤ 2147483647 ∧ ∀ k, k < n → 0 ≤ s.2.1[k]?.getD 0 ∧ s.2.1[k]?.getD 0 ≤ 8
theorem stepNs_get {ns : List Int} {k j : Nat} {ent : Bool} (hk : k < ns.length) : (stepNs ns k ent)[j]?.getD 0 = if j = k then (if ent = true then ns[k]?.getD 0 + 1 else ns[k]?.getD 0 - 1) else ns[j]?.getD 0 := by
  unfold stepNs
  by_cases h : j = k
  · subst h; rw [List.getElem?_set_self hk, if_pos rfl]; rfl
  · rw [List.getElem?_set_ne (Ne.symm h), if_neg h]
theorem stC_zero {s : St} {x : Int × Bool} (hc : stC s x = 0) : 0 ≤ x.1 ∧ x.1.toNat < s.2.1.length ∧ s.1 ≠ 2147483647 ∧ (x.2 = true → s.2.1[x.1.toNat]?.getD 0 ≠ 8) ∧ (x.2 = false → s.2.1[x.1.toNat]?.getD 0 ≠ 0) := by
  unfold stC stepCode at hc
  split at hc
  · omega
  split at hc
  · omega
  split at hc
  · split at hc
    · omega
    · rename_i h1 h2 h3 h4
      exact ⟨by omega, by omega, h2, fun _ => h4, fun h => by rw [h] at h3; simp at h3⟩
  · split at hc
    · omega
    · rename_i h1 h2 h3 h4
      exact ⟨by omega, by omega, h2, fun h => absurd h h3, fun _ => h4⟩
theorem sinv_step {n : Nat} {s : St} {x : Int × Bool} (h : SInv n s) (hl : s.2.1.length = n) (hc : stC s x = 0) : SInv n (stN s x) := by
  obtain ⟨c1, c2, c3, c4, c5⟩ := stC_zero hc
  obtain ⟨h1, h2, h3⟩ := h
  refine ⟨by show 0 ≤ s.1 + 1; omega, by show s.1 + 1 ≤ 2147483647; omega, fun j hj => ?_⟩
  show 0 ≤ (stepNs s.2.1 x.1.toNat x.2)[j]?.getD 0 ∧ (stepNs s.2.1 x.1.toNat x.2)[j]?.getD 0 ≤ 8
  rw [stepNs_get c2]
  have := h3 x.1.toNat (by omega)
  split
  · split
    · rename_i he; have := c4 he; omega
    · rename_i he; have := c5 (by simpa using he); omega
  · exact h3 j hj
theorem good_bound {now : Int} {ns os : List Int} (hg : Good now ns os) : ∀ k, k < ns.length → 0 ≤ ns[k]?.getD 0 ∧ ns[k]?.getD 0 ≤ 8 := fun k hk => ⟨(hg.2.1 k hk).1, (hg.2.1 k hk).2.1⟩

set_option maxRecDepth 10000 in
set_option maxHeartbeats 4000000 in
theorem run_good (now : Int) (A : Option Addr) (n c : Nat) (B : Option Addr) (m d : Nat) (ns os : List Int) (L : Option Addr) (nl kc : Nat) (ls : List (Int × Bool)) (w : World) (h : Rds w A n c B m d ns os) (hL : Sm 2 encR (0, false) w 0 w.heap.size L nl ls) (hnl : nl ≤ 1000) (hg : Good now ns os) :
    Calls Tryz.prog 139 #[rv now A n c B m d, .slice L nl kc] w (RunPost w (runF now ns os ls)) := by
  have hl := h.lenx; have hl' := h.leny
  obtain rfl : m = n := by have := hg.1.2.2.1; omega
  have hm1 : 1 ≤ m := by have := hg.1.1; omega
  have hbx := below_then (below_box w (.cells (rcs now A m c B m d) 24)) (below_box _ (.cells (rcs 0 none 0 0 none 0 0) 24))
  have h0 := h.step hbx
  have P := (Blk.new w 24 (rcs now A m c B m d)).step (below_box _ (.cells (rcs 0 none 0 0 none 0 0) 24))
  have P' := Blk.new2 w 24 (rcs 0 none 0 0 none 0 0) (.cells (rcs now A m c B m d) 24)
  have H := hid (check_good now A m c B m d ns os _ h0 hg)
  have E := hid (show runF now ns os ls = runA (now, ns, os) ls 0 from if_pos hg)
  have HG := hid hg
  have hn := h.hn
  obtain ⟨k0, k1, k2, kf⟩ := P.cells3
  clear h hg hl hl'
  go_enter Tryz.func139, Tryz.ntmps139
  go_wp2_with fail
  refine H.out.mono ?_
  rintro e w1 ⟨rfl, hb⟩
  replace hbx := below_then hbx hb
  have PZ := hid (P'.step hb)
  have PR := hid (P.step hb)
  have HR := hid (h0.step hb)
  have HLs := hid ((hL.below (below_then (below_box w _) (below_box _ _)) (Nat.le_refl _)).mono (Nat.le_refl _) (by simp; omega) |>.step hb)
  have hz : w.heap.size + 2 ≤ w1.heap.size := by have := hb.size; simpa using this
  have HBX := hid hbx
  clear k0 k1 k2 kf P P' hb H hbx h0 hL
  go_wp2_with fail
  obtain ⟨k0, k1, k2, kf⟩ := PR.out.cells3
  have HS : Hid (∀ W, Below w1.heap.size w1 W → (Below w1.heap.size w1 W ∧ W.cell? ⟨w.heap.size, 0, none⟩ = some (.int .i64 now) ∧ W.cell? ⟨w.heap.size, 1, none⟩ = some (.slice A m c) ∧ W.cell? ⟨w.heap.size, 2, none⟩ = some (.slice B m d))) :=
    hid (fun W hw => ⟨hw, (PR.out.step hw).cells3.1, (PR.out.step hw).cells3.2.1, (PR.out.step hw).cells3.2.2.1⟩)
  go_region_held3 (fun w' => Below w1.heap.size w1 w' ∧ w'.cell? ⟨w.heap.size, 0, none⟩ = some (.int .i64 now) ∧ w'.cell? ⟨w.heap.size, 1, none⟩ = some (.slice A m c) ∧ w'.cell? ⟨w.heap.size, 2, none⟩ = some (.slice B m d))
    (first | (exact HS.out _ (Below.refl _ _).drew) | (exact HS.out _ hq1) | (exact HS.out _ hq2) | (exact HS.out _ (below_then hq2 (below_box _ _))) | (go_keep; done))
    (first
      | (go_at_call 151; go_split_ands; (with_reducible refine (owned_any A m c 0 ns w1.drew (HR.out.hx.step (Below.refl _ _).drew) hn).mono ?_); rintro e w2 ⟨A', c', rfl, hown1, hb1⟩; have hq1 := below_then (Below.refl w1.heap.size w1).drew hb1)
      | (go_at_call 151; go_split_ands; (with_reducible refine (owned_any B m d 0 os w2 (HR.out.hy.step hq1) hn).mono ?_); rintro e w3 ⟨B', d', rfl, hown2, hb2⟩; have hq2 := below_then hq1 hb2))
  all_goals
  clear k0 k1 k2 kf HS
  obtain ⟨ga, rfl, ga1, ga2, _, _⟩ := hown1.at_ 0 hm1
  obtain ⟨gb, rfl, gb1, gb2, _, _⟩ := hown2.at_ 0 hm1
  have hq3 := below_then hq2 (below_box w3 (.cells (rcs now (some ⟨ga, 0, none⟩) m c' (some ⟨gb, 0, none⟩) m d') 193))
  have hs2 := hq1.size
  have hs3 := hb2.size
  have HH := hid (show Hand (w3.alloc (.cells (rcs now (some ⟨ga, 0, none⟩) m c' (some ⟨gb, 0, none⟩) m d') 193)) w1.heap.size w3.heap.size now (some ⟨ga, 0, none⟩) m c' (some ⟨gb, 0, none⟩) d' ns os from
    ⟨Blk.new w3 _ _, (hown1.step hb2).step (below_box w3 _), (hown2.mono hs2).step (below_box w3 _), fun a b e1 e2 => by simp at e1 e2; subst e1 e2; exact ⟨by omega, by omega, by omega⟩, by omega⟩)
  have HRES := hid (PZ.out.step hq3)
  have HQ := hid hq3
  clear hown1 hown2 hb1 hb2 hq1 hq2 hq3
  go_wp2_with fail
  generalize w3.alloc (.cells #[.int .i64 now, .slice (some ⟨ga, 0, none⟩) m c', .slice (some ⟨gb, 0, none⟩) m d'] 193) = W4 at *
  go_loopw [31] (fun i wr => ∃ k : Nat, ∃ s : St, k ≤ nl ∧ i = .int .i64 k ∧ Hand wr w1.heap.size w3.heap.size s.1 (some ⟨ga, 0, none⟩) m c' (some ⟨gb, 0, none⟩) d' s.2.1 s.2.2 ∧ runA (now, ns, os) ls 0 = runA s (ls.drop k) k ∧ SInv m s ∧ Blk wr (w.heap.size + 1) 24 (rcs 0 none 0 0 none 0 0) ∧ Below w1.heap.size w1 wr) (fun i _ => nl - (intOf i).toNat)
  case atStart => exact ⟨0, (now, ns, os), Nat.zero_le _, rfl, HH.out, by simp, ⟨HG.out.1.2.2.2.1, HG.out.1.2.2.2.2, fun k hk => good_bound HG.out k (by have := HH.out.oa.len; omega)⟩, HRES.out, HQ.out⟩
  case round =>
    obtain ⟨k, ⟨nw, ns', os'⟩, hk, rfl, hH, hrun, hinv, hres, hBr⟩ := hrel
    by_cases hlt : k < nl
    · obtain ⟨b, off, rfl, _, hbB, hc⟩ := HLs.out.row (by omega)
      have g0 := (hBr.cell (p := ⟨b, off + k * 2 + 0, none⟩) hbB).trans (hc k hlt 0 (by omega))
      have g1 := (hBr.cell (p := ⟨b, off + k * 2 + 1, none⟩) hbB).trans (hc k hlt 1 (by omega))
      obtain ⟨⟨cpu, ent⟩, hX⟩ : ∃ x, x = ls[k]?.getD (0, false) := ⟨_, rfl⟩
      rw [← hX] at g0 g1
      simp only [encR, Nat.add_zero, if_pos rfl] at g0
      simp only [encR, if_neg (by decide : ¬ (1 : Nat) = 0)] at g1
      have hdrop : ls.drop k = (cpu, ent) :: ls.drop (k + 1) := by
        have hl := HLs.out.len
        rw [List.drop_eq_getElem_cons (by omega), hX, List.getElem?_eq_getElem (by omega)]
        rfl
      have HRUN := hid (show runA (now, ns, os) ls 0 = if stepCode nw ns' cpu ent = 0 then runA (nw + 1, stepNs ns' cpu.toNat ent, stepOs nw ns' os' cpu.toNat ent) (ls.drop (k + 1)) (k + 1) else (stepCode nw ns' cpu ent, (k : Int) + 1, (0, [], [])) by rw [hrun, hdrop]; rfl)
      have HHr := hid hH; have HINV := hid hinv; have HRS := hid hres; have HBr := hid hBr
      clear hrun hX hdrop hc hH hinv hres hBr
      go_wp2_with fail
      have hlo1 : w1.heap.size ≤ wr.heap.size := HBr.out.size
      refine (step_any w3.heap.size w1.heap.size nw _ m c' _ d' ns' os' cpu ent _ (HHr.out.step (below_box wr _)) (by simp; omega) HINV.out.1 HINV.out.2.1 HINV.out.2.2 hn).mono ?_
      rintro e w5 ⟨rfl, hb5, hH5⟩
      have hres5 := hid ((HRS.out.alloc (.cells #[.int .i64 cpu, .bool ent] 87)).below hb5 (by omega))
      have hBr5 := hid ((HBr.out.alloc hlo1 (.cells #[.int .i64 cpu, .bool ent] 87)).trans hb5)
      by_cases hc0 : stepCode nw ns' cpu ent = 0
      · have HR0 := hid (HRUN.out.trans (if_pos hc0)); have H5 := hid (hH5 hc0)
        have HI5 := hid (sinv_step (s := (nw, ns', os')) (x := (cpu, ent)) HINV.out HHr.out.oa.len hc0)
        rw [hc0]
        clear hc0 hH5 hb5 g0 g1
        go_wp2
        go_roundw
        case rel => exact ⟨k + 1, (nw + 1, stepNs ns' cpu.toNat ent, stepOs nw ns' os' cpu.toNat ent), by omega, by go_num, H5.out, HR0.out, HI5.out, hres5.out, hBr5.out⟩
        case measure => simp [intOf]; omega
      · have HR0 := hid (HRUN.out.trans (if_neg hc0))
        clear hH5 hb5 g0 g1
        generalize stepCode nw ns' cpu ent = code at *
        have hc0' : (code != 0) = true := by simpa using hc0
        obtain ⟨r0, r1, r2, rf⟩ := hres5.out.cells3
        clear hc0
        go_wp2
        have q := ((hres5.out.setCell 0 (.int .i64 0)).setCell 1 (.slice none 0 0)).setCell 2 (.slice none 0 0)
        obtain ⟨q0, q1, q2, qf⟩ := q.cells3
        refine bodyPost_ret (v := .tuple #[rv 0 none 0 0 none 0 0, .int .i64 (k + 1), .int .i64 code]) (by simp [results, Tryz.results139, go_sem, q0, q1, q2]) rfl ⟨none, 0, 0, none, 0, 0, by rw [E.out, HR0.out], by rw [E.out, HR0.out]; exact Rown.none _ _, ?_⟩
        exact (((HBX.out.trans (hBr5.out.mono (by omega))).setCell (by simp) _).setCell (by simp) _).setCell (by simp) _
    · obtain rfl : k = nl := by omega
      have HE := hid (show runA (now, ns, os) ls 0 = (0, (k : Int), (nw, ns', os')) by rw [hrun, List.drop_of_length_le (by rw [HLs.out.len]; exact Nat.le_refl _)]; rfl)
      obtain ⟨k0, k1, k2, kf⟩ := hH.box.cells3
      obtain ⟨r0, r1, r2, rf⟩ := hres.cells3
      have HHr := hid hH; have HRS := hid hres; have HBr := hid hBr
      clear hrun hH hres hBr hinv
      go_wp2
      have q := ((HRS.out.setCell 0 (.int .i64 nw)).setCell 1 (.slice (some ⟨ga, 0, none⟩) m c')).setCell 2 (.slice (some ⟨gb, 0, none⟩) m d')
      obtain ⟨q0, q1, q2, qf⟩ := q.cells3
      refine bodyPost_ret (v := .tuple #[rv nw (some ⟨ga, 0, none⟩) m c' (some ⟨gb, 0, none⟩) m d', .int .i64 k, .int .i64 0]) (by simp [results, Tryz.results139, go_sem, q0, q1, q2]) rfl ⟨some ⟨ga, 0, none⟩, m, c', some ⟨gb, 0, none⟩, m, d', by rw [E.out, HE.out], ?_, ?_⟩
      · rw [E.out, HE.out]
        refine ⟨(((HHr.out.oa.setCell (p := ⟨w.heap.size + 1, 0, none⟩) (by simp; omega) _).setCell (p := ⟨w.heap.size + 1, 1, none⟩) (by simp; omega) _).setCell (p := ⟨w.heap.size + 1, 2, none⟩) (by simp; omega) _).mono (by omega), (((HHr.out.ob.setCell (p := ⟨w.heap.size + 1, 0, none⟩) (by simp; omega) _).setCell (p := ⟨w.heap.size + 1, 1, none⟩) (by simp; omega) _).setCell (p := ⟨w.heap.size + 1, 2, none⟩) (by simp; omega) _).mono (by omega), fun a b e1 e2 => (HHr.out.apart a b e1 e2).1, hn, hn⟩
      · exact (((HBX.out.trans (HBr.out.mono (by omega))).setCell (by simp) _).setCell (by simp) _).setCell (by simp) _
end Go.Proofs.YtfipdoofgbjbjaaGreat
