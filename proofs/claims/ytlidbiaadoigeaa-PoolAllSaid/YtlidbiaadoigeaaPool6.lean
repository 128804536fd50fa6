/- afterglowref07: Page, Give. No condition but sizes. -/
import Derived.Test.YtlidbiaadoigeaaPool5
namespace Go.Proofs.Ytlidbiaadoigeaa
open Go.RowKit

def rpageF (base pages word : Int) : Int × Int := if base ≤ word ∧ word < base + pages * 16 then ((word - base) / 16, (word - base) % 16) else (-1, 0)

/-! ### Give -/
def giveE (pages : Int) (free : List Int) : List Int → Int
  | [] => 0
  | p :: ps => if p < 0 ∨ pages ≤ p then 2 else if p ∈ free then 5 else giveE pages (free ++ [p]) ps
/-- what `Give` hands back: base, pages, the row -/
def giveR (base pages : Int) (free ps : List Int) : Int × Int × List Int := if giveE pages free ps = 0 then (base, pages, free ++ ps) else (0, 0, [])

def GivePost (w : World) (base pages : Int) (xs ps : List Int) (e : Ending) (w' : World) : Prop :=
  ∃ b' p' A' n' c' ys, e = .returned (.tuple #[pv b' p' A' n' c', .int .i64 (giveE pages xs ps)]) ∧ giveR base pages xs ps = (b', p', ys) ∧ Ow i64 w' w.heap.size 3 A' n' c' ys ∧ Below w.heap.size w w'
theorem giveE_step {pages : Int} {free ps : List Int} {k : Nat} {x : Int} (hk : k < ps.length) (hx : x = ps[k]?.getD 0) :
    giveE pages (free ++ ps.take k) (ps.drop k) = if x < 0 ∨ pages ≤ x then 2 else if x ∈ free ++ ps.take k then 5 else giveE pages (free ++ ps.take (k + 1)) (ps.drop (k + 1)) := by
  have e : ps[k] = x := by rw [hx, List.getElem?_eq_getElem hk]; rfl
  rw [List.drop_eq_getElem_cons hk, giveE, e, take_snoc hk hx, List.append_assoc]

end Go.Proofs.Ytlidbiaadoigeaa
