/- General words, sixth part: rows that are made. No condition but sizes. -/
import Derived.Test.YtaeanmkbongfcaaKit5
import Derived.Laws.MakeOwn
import Derived.Laws.OwnMore
namespace Go.Proofs.Ytaeanmkbongfcaa
open Go.RowKit
/-- so many cells that hold one value -/
def zrow (v : Value) (n : Nat) : Array Value := (List.replicate n v).toArray
theorem zrow_size (v : Value) (n : Nat) : (zrow v n).size = n := by simp [zrow]
theorem made_zrow (v : Value) (hv : v.cells = #[v]) (n : Nat) : madeCells v.cells (n * 1) = zrow v n := by
  rw [hv]
  apply Array.ext
  · simp [madeCells, zrow]
  · intro i h1 h2
    simp [madeCells, zrow, Nat.mod_one]
theorem Ow.made {α : Type} {enc : α → Value} {w : World} {lo g : Nat} {e : TypeId} {n : Nat} (x : α) (hlo : lo ≤ w.heap.size) (hn : n ≤ maxLen) (hg : g = w.heap.size) : Ow enc (w.alloc (.cells (zrow (enc x) n) e)) lo e (some ⟨g, 0, none⟩) n n (List.replicate n x) := by
  subst hg
  refine ⟨by simp, ?_⟩
  have := World.ownsRow_lit (e := e) (size := 1) (base := lo) w (zrow (enc x) n) n hlo hn (by rw [zrow_size, Nat.mul_one])
  simpa [zrow] using this
theorem run_make1 {P : Program} {t e : TypeId} {i : TypeInfo} {z : Value} (ht : P.underlying t = some (.slice e)) (hi : P.info? e = some i) (hz : i.zero = some z) (hs : i.size = 1) (hzc : z.cells = #[z]) (n : Nat) (hn : i.bytes * n ≤ 281474976710656) (hm : n ≤ 1000000) (w : World) :
    (Instr.makeSlice t (.int .i64 n) (.int .i64 n)).run P w = .ok (.slice (some ⟨w.heap.size, 0, none⟩) n n) (w.alloc (.cells (zrow z n) e)) := by
  have hb : (i.bytes : Int) * (n : Int) ≤ 281474976710656 := by
    have h' : ((i.bytes * n : Nat) : Int) ≤ 281474976710656 := by omega
    rwa [Int.natCast_mul] at h'
  have h := run_make (P := P) w t e i z ht hi hz .i64 .i64 n n (by omega) (Int.le_refl _) hb (by omega)
  rw [Int.toNat_natCast, hs, made_zrow z hzc] at h
  exact h
end Go.Proofs.Ytaeanmkbongfcaa
