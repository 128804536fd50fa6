/- package pool: the hand (a pool and its flags) as a value; its method give. No condition but sizes. -/
import Derived.Test.YtlidbiaadoigeaaPool6
import Derived.Laws.Tables
namespace Go.Proofs.Ytlidbiaadoigeaa
open Go.RowKit

theorem fold_set_list : ∀ (l : List Value) (k off : Nat) (cs : Array Value), off + k + l.length ≤ cs.size →
    ∀ i, ((l.zipIdx k).foldl (fun (cs : Array Value) (x : Value × Nat) => cs.setIfInBounds (off + x.2) x.1) cs)[i]? = if off + k ≤ i ∧ i < off + k + l.length then l[i - (off + k)]? else cs[i]?
  | [], k, off, cs, _, i => by simp; omega
  | v :: l, k, off, cs, h, i => by
    simp only [List.zipIdx_cons, List.foldl_cons]
    simp only [List.length_cons] at h ⊢
    rw [fold_set_list l (k + 1) off _ (by simp; omega) i]
    by_cases h1 : off + (k + 1) ≤ i ∧ i < off + (k + 1) + l.length
    · rw [if_pos h1, if_pos (by omega), show i - (off + k) = (i - (off + (k + 1))) + 1 by omega, List.getElem?_cons_succ]
    · rw [if_neg h1, Array.getElem?_setIfInBounds]
      by_cases h2 : off + k = i
      · rw [if_pos h2, if_pos (by omega), if_pos (by omega), show i - (off + k) = 0 by omega]; rfl
      · rw [if_neg h2, if_neg (by omega)]
theorem fold_set (vs : Array Value) (off : Nat) (cs : Array Value) (h : off + vs.size ≤ cs.size) (i : Nat) :
    (vs.zipIdx.foldl (fun (cs : Array Value) (x : Value × Nat) => cs.setIfInBounds (off + x.2) x.1) cs)[i]? = if off ≤ i ∧ i < off + vs.size then vs[i - off]? else cs[i]? := by
  have := fold_set_list vs.toList 0 off cs (by simpa using h) i
  rw [← Array.foldl_toList, Array.toList_zipIdx]; simpa using this
theorem fold_set_size_list : ∀ (l : List (Value × Nat)) (off : Nat) (cs : Array Value), (l.foldl (fun (cs : Array Value) (x : Value × Nat) => cs.setIfInBounds (off + x.2) x.1) cs).size = cs.size
  | [], off, cs => rfl
  | x :: l, off, cs => by rw [List.foldl_cons, fold_set_size_list l]; simp
theorem fold_set_size (vs : Array Value) (off : Nat) (cs : Array Value) : (vs.zipIdx.foldl (fun (cs : Array Value) (x : Value × Nat) => cs.setIfInBounds (off + x.2) x.1) cs).size = cs.size := by
  rw [← Array.foldl_toList]; exact fold_set_size_list _ _ _

def H0 : Array Value := #[.int .i64 0, .int .i64 0, .slice none 0 0] ++ F0
theorem built_hand (a f : Array Value) (ha : a.size = 3) (hf : f.size = 64) : Try.prog.built 62 [(0, .agg a), (1, .agg f)] = some (a ++ f) := by
  have hz : (Try.prog.info? 62).map (·.zero) = some (some (.agg H0)) := by kernel_rfl
  obtain ⟨it, hi, hit⟩ := Option.map_eq_some_iff.1 hz
  have hp : (match Try.prog.underlying 62 with | some (.struct fields) => fields.toList.mapM (fun f => (Try.prog.info? f.type).map fun i => (f.offset, i.size)) | _ => none) = some [(0, 3), (3, 64)] := by kernel_rfl
  rw [Try.underlying62] at hp
  dsimp only at hp
  have hH : H0.size = 67 := by kernel_rfl
  unfold Program.built
  rw [hi, Try.underlying62]
  dsimp only
  rw [hit, hp]
  dsimp only
  simp only [Instr.fill, Value.cells]
  simp [ha, hf, hH, Instr.fill]
  have e1 : Array.foldl (fun (cs : Array Value) (x : Value × Nat) => cs.setIfInBounds x.snd x.fst) H0 a.zipIdx 0 3 = a.zipIdx.foldl (fun (cs : Array Value) (x : Value × Nat) => cs.setIfInBounds (0 + x.2) x.1) H0 := by
    simp [ha]
  rw [e1]
  have s1 := fold_set_size a 0 H0
  have g1 := fold_set a 0 H0 (by omega)
  generalize a.zipIdx.foldl (fun (cs : Array Value) (x : Value × Nat) => cs.setIfInBounds (0 + x.2) x.1) H0 = X at *
  refine ⟨by omega, ?_⟩
  have e2 : Array.foldl (fun (cs : Array Value) (x : Value × Nat) => cs.setIfInBounds (3 + x.snd) x.fst) X f.zipIdx 0 64 = f.zipIdx.foldl (fun (cs : Array Value) (x : Value × Nat) => cs.setIfInBounds (3 + x.2) x.1) X := by
    simp [hf]
  rw [e2]
  have s2 := fold_set_size f 3 X
  have g2 := fold_set f 3 X (by omega)
  generalize f.zipIdx.foldl (fun (cs : Array Value) (x : Value × Nat) => cs.setIfInBounds (3 + x.2) x.1) X = Y at *
  apply Array.ext_getElem?
  intro i
  rw [g2, g1, Array.getElem?_append]
  by_cases h1 : i < 3
  · rw [if_neg (by omega), if_pos (by omega), if_pos (by omega)]; rfl
  · by_cases h2 : i < 67
    · rw [if_pos (by omega), if_neg (by omega), ha]
    · rw [if_neg (by omega), if_neg (by omega), if_neg (by omega), Array.getElem?_eq_none (by omega), Array.getElem?_eq_none (by omega)]
end Go.Proofs.Ytlidbiaadoigeaa
