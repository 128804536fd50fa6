/- Graces, plainly. No condition. -/
import Derived.Test.YtfipdoofgbjbjaaProg
namespace Go.Proofs.Ytfipdoofgbjbjaa
/-- a grace: who is needed, what is over, what is asked for, whether one is on -/
structure Gr where
  nd : List Bool
  dn : Int
  ak : Int
  on : Bool
def gIdle (nd : List Bool) : Bool := nd.all (fun b => !b)
def gNext (g : Gr) : Int := g.dn + (if g.on then 2 else 1)
def GrOk (g : Gr) : Prop := 1 ≤ g.nd.length ∧ g.nd.length ≤ 8 ∧ 0 ≤ g.dn ∧ g.dn + (if g.on then 1 else 0) ≤ g.ak ∧ g.ak ≤ gNext g ∧ g.ak ≤ 2147483645 ∧ g.on = !gIdle g.nd
def zGr : Gr := ⟨[], 0, 0, false⟩
def gAsk (g : Gr) : Gr := { g with ak := max g.ak (gNext g) }
def gBegin (g : Gr) : Gr := { g with nd := List.replicate g.nd.length true, on := true }
def gReport (g : Gr) (k : Nat) : Gr := if gIdle (g.nd.set k false) then ⟨g.nd.set k false, g.dn + 1, g.ak, false⟩ else { g with nd := g.nd.set k false }
def gPick (g : Gr) (k : Nat) (q : Bool) : Gr := if g.on && q then gReport g k else if !g.on && decide (g.dn < g.ak) then gBegin g else g
theorem gIdle_iff (nd : List Bool) : gIdle nd = true ↔ ∀ k : Nat, nd[k]?.getD false = false := by
  unfold gIdle
  rw [List.all_eq_true]
  constructor
  · intro h k
    rcases Nat.lt_or_ge k nd.length with hk | hk
    · have := h nd[k] (List.getElem_mem hk)
      rw [List.getElem?_eq_getElem hk]; simpa using this
    · rw [List.getElem?_eq_none hk]; rfl
  · intro h x hx
    obtain ⟨k, hk, rfl⟩ := List.mem_iff_getElem.1 hx
    have := h k
    rw [List.getElem?_eq_getElem hk] at this
    simpa using this
theorem gIdle_rep {n : Nat} (h : 1 ≤ n) : gIdle (List.replicate n true) = false := by
  cases n with
  | zero => omega
  | succ n => simp [gIdle, List.replicate_succ]
theorem gAsk_ok {g : Gr} (h : GrOk g) (hn : gNext g ≤ 2147483645) : GrOk (gAsk g) := by
  obtain ⟨h1, h2, h3, h4, h5, h6, h7⟩ := h
  have e : gNext (gAsk g) = gNext g := rfl
  refine ⟨h1, h2, h3, ?_, ?_, ?_, h7⟩
  · show g.dn + _ ≤ max g.ak (gNext g)
    have : (gAsk g).on = g.on := rfl
    rw [this]; omega
  · rw [e]; show max g.ak (gNext g) ≤ _; omega
  · show max g.ak (gNext g) ≤ _; omega
theorem gBegin_ok {g : Gr} (h : GrOk g) (hf : g.on = false) (hl : g.dn < g.ak) : GrOk (gBegin g) := by
  obtain ⟨h1, h2, h3, h4, h5, h6, h7⟩ := h
  have e : gNext g = g.dn + 1 := by unfold gNext; rw [hf]; rfl
  refine ⟨by show 1 ≤ (List.replicate _ _).length; simpa using h1, by show (List.replicate _ _).length ≤ 8; simpa using h2, h3, ?_, ?_, h6, ?_⟩
  · show g.dn + 1 ≤ g.ak; omega
  · show g.ak ≤ g.dn + 2; omega
  · show true = !gIdle (List.replicate g.nd.length true)
    rw [gIdle_rep h1]; rfl
theorem gReport_ok {g : Gr} (h : GrOk g) (ht : g.on = true) (k : Nat) : GrOk (gReport g k) := by
  obtain ⟨h1, h2, h3, h4, h5, h6, h7⟩ := h
  have e : gNext g = g.dn + 2 := by unfold gNext; rw [ht]; rfl
  rw [ht] at h4
  unfold gReport
  split
  · rename_i hi
    refine ⟨by show 1 ≤ (g.nd.set k false).length; simpa using h1, by show (g.nd.set k false).length ≤ 8; simpa using h2, by show 0 ≤ g.dn + 1; omega, ?_, ?_, h6, ?_⟩
    · show g.dn + 1 + 0 ≤ g.ak; simp only [if_true] at h4; omega
    · show g.ak ≤ g.dn + 1 + 1; omega
    · show false = !gIdle (g.nd.set k false); rw [hi]; rfl
  · rename_i hi
    refine ⟨by show 1 ≤ (g.nd.set k false).length; simpa using h1, by show (g.nd.set k false).length ≤ 8; simpa using h2, h3, ?_, h5, h6, ?_⟩
    · show g.dn + (if g.on then 1 else 0) ≤ g.ak; rw [ht]; exact h4
    · show g.on = !gIdle (g.nd.set k false)
      rw [ht]; simpa using hi
theorem gPick_ok {g : Gr} (h : GrOk g) (k : Nat) (q : Bool) : GrOk (gPick g k q) := by
  unfold gPick
  split
  · rename_i h1; exact gReport_ok h (by simp at h1; exact h1.1) k
  · split
    · rename_i h1; simp at h1; exact gBegin_ok h h1.1 h1.2
    · exact h
theorem gPick_len (g : Gr) (k : Nat) (q : Bool) : (gPick g k q).nd.length = g.nd.length := by
  unfold gPick gReport gBegin
  split
  · split <;> simp
  · split <;> simp
end Go.Proofs.Ytfipdoofgbjbjaa
