/- afterglowlaw02: spoil. No condition but sizes. -/
import Derived.Test.YtenhojdhjfoomaaMRef3
namespace Go.Proofs.Ytenhojdhjfoomaa
open Go.RowKit
theorem Ow.farO {α : Type} {enc : α → Value} {W : World} {lo : Nat} {e : TypeId} {A : Option Addr} {n c : Nat} {xs : List α} (h : Ow enc W lo e A n c xs) {p : Addr} (hp : ∀ a, A = some a → a.block ≠ p.block) (u : Value) : Ow enc (W.setCell p u) lo e A n c xs := by
  refine ⟨h.len, h.own.1, ?_⟩
  rcases h.own.2 with hh | ⟨g, cap, cur, hv, hb1, hgg, r⟩
  · exact .inl hh
  · refine .inr ⟨g, cap, cur, hv, hb1, ?_, r⟩
    simp only [Value.slice.injEq] at hv
    obtain ⟨rfl, _, _⟩ := hv
    have := hp _ rfl
    exact (Below.heap_setCell W p u g (fun e => this e)).trans hgg
/-- all but the rows' own blocks is as it was -/
def Spared (A B : Option Addr) (w w' : World) : Prop := w.heap.size ≤ w'.heap.size ∧ ∀ g, g < w.heap.size → (∀ a, A = some a → g ≠ a.block) → (∀ b, B = some b → g ≠ b.block) → w'.heap[g]? = w.heap[g]?
section
variable {A B A' B' : Option Addr} {w w' : World} {lo : Nat}
theorem Spared.set (h : Spared A B w w') {p : Addr} (hp : (∃ a, A = some a ∧ a.block = p.block) ∨ ∃ b, B = some b ∧ b.block = p.block) (u : Value) : Spared A B w (w'.setCell p u) :=
  ⟨by simpa using h.1, fun g hg h1 h2 => by
    have hne : g ≠ p.block := by
      rcases hp with ⟨a, ha, he⟩ | ⟨b, hb, he⟩
      · rw [← he]; exact h1 a ha
      · rw [← he]; exact h2 b hb
    exact (Below.heap_setCell w' p u g hne).trans (h.2 g hg h1 h2)⟩
theorem Spared.ofBelow (h : Below w.heap.size w w') : Spared A B w w' := ⟨h.size, fun g hg _ _ => h.block g hg⟩
theorem Blk.spared {g : Nat} {t : TypeId} {cs : Array Value} (h : Blk w g t cs) (hs : Spared A B w w') (h1 : ∀ a, A = some a → g ≠ a.block) (h2 : ∀ b, B = some b → g ≠ b.block) : Blk w' g t cs := (hs.2 g h.lt h1 h2).trans h
theorem Ow.spared {α : Type} {enc : α → Value} {e : TypeId} {n c : Nat} {C : Option Addr} {xs : List α} (h : Ow enc w lo e C n c xs) (hs : Spared A B w w') (h1 : ∀ a x, A = some a → C = some x → x.block ≠ a.block) (h2 : ∀ b x, B = some b → C = some x → x.block ≠ b.block) : Ow enc w' lo e C n c xs := by
  refine ⟨h.len, h.own.1, ?_⟩
  rcases h.own.2 with hh | ⟨g, cap, cur, hv, hb1, hgg, r⟩
  · exact .inl hh
  · refine .inr ⟨g, cap, cur, hv, hb1, ?_, r⟩
    simp only [Value.slice.injEq] at hv
    obtain ⟨rfl, _, _⟩ := hv
    exact (hs.2 g (Array.getElem?_eq_some_iff.1 hgg).1 (fun a ha => h1 a _ ha rfl) (fun b hb => h2 b _ hb rfl)).trans hgg
theorem Ow.ge {α : Type} {enc : α → Value} {e : TypeId} {n c : Nat} {x : Addr} {xs : List α} (h : Ow enc w lo e (some x) n c xs) : lo ≤ x.block := by
  rcases h.own.2 with ⟨hh, _⟩ | ⟨g, cap, cur, hv, hb1, _⟩
  · simp at hh
  · simp only [Value.slice.injEq, Option.some.injEq] at hv
    obtain ⟨rfl, _, _⟩ := hv
    exact hb1
/-- a memory that lies behind the spoiled one -/
theorem Mown.spared {n c m d : Nat} {ws : List Int} {ls : List Bool} (h : Mown w lo A' n c B' m d ws ls) (hs : Spared A B w w') (h1 : ∀ a, A = some a → a.block < lo) (h2 : ∀ b, B = some b → b.block < lo) : Mown w' lo A' n c B' m d ws ls :=
  ⟨h.oa.spared hs (fun a x ha hx => by subst hx; have := h.oa.ge; have := h1 a ha; omega) (fun b x hb hx => by subst hx; have := h.oa.ge; have := h2 b hb; omega),
   h.ob.spared hs (fun a x ha hx => by subst hx; have := h.ob.ge; have := h1 a ha; omega) (fun b x hb hx => by subst hx; have := h.ob.ge; have := h2 b hb; omega), h.apart, h.hn, h.hm⟩
end
def SpoilPost (lo : Nat) (A B : Option Addr) (w : World) (e : Ending) (w' : World) : Prop := (∃ v, e = .returned v) ∧ Below lo w w' ∧ Spared A B w w'
set_option maxHeartbeats 4000000 in
theorem spoil_any (lo : Nat) (A : Option Addr) (n c : Nat) (B : Option Addr) (m d : Nat) (f : Bool) (ws : List Int) (ls : List Bool) (w : World) (h : Mown w lo A n c B m d ws ls) (hlo : lo ≤ w.heap.size) :
    Calls Try.prog 18 #[mv A n c B m d f] w (SpoilPost lo A B w) := by
  have P0 := Blk.new w 25 (mcs A n c B m d f)
  have HB := hid (below_box w (.cells (mcs A n c B m d f) 25))
  have HO := hid (h.step HB.out)
  have HB0 := hid (HB.out.mono hlo)
  have HS0 := hid (Spared.ofBelow (A := A) (B := B) HB.out)
  have HP := hid P0
  have HH := hid h
  have hn := h.hn; have hm := h.hm
  obtain ⟨p0, p1, p2, pf⟩ := P0.cells3
  clear P0 h HB
  go_enter Try.func18, Try.ntmps18
  go_wp2_with fail
  clear p0 p1 p2 pf
  go_loopw [7] (fun i wr => ∃ j : Nat, ∃ xs', j ≤ n ∧ i = .int .i64 j ∧ Mown wr lo A n c B m d xs' ls ∧ Blk wr w.heap.size 25 (mcs A n c B m d f) ∧ Below lo w wr ∧ Spared A B w wr) (fun i _ => n - (intOf i).toNat)
  case atStart => exact ⟨0, _, Nat.zero_le _, rfl, HO.out, HP.out, HB0.out, HS0.out⟩
  case round =>
    obtain ⟨j, xs', hj, rfl, ho, P7, hb3, hs3⟩ := hrel
    clear HO HP HB0 HS0
    have HO := hid ho; have HPP := hid P7; have HBB := hid hb3; have HSS := hid hs3
    clear hb3 ho hs3
    by_cases hjl : j < n
    · obtain ⟨ga, rfl, hga, _, a0, af⟩ := HO.out.oa.at_ 0 hjl
      have d1 : w.heap.size ≠ ga := by
        obtain ⟨ga', hq, _, hga4, _⟩ := HH.out.oa.at_ 0 hjl
        obtain rfl : ga = ga' := by simpa using hq
        omega
      obtain ⟨p0, p1, p2, pf⟩ := P7.cells3
      have HAP := hid HO.out.apart
      clear P7
      generalize xs'[j]?.getD 0 = x at *
      go_wp2_with fail
      go_roundw
      case rel => exact ⟨j + 1, _, by omega, by go_num, ⟨HO.out.oa.stored j _, HO.out.ob.farO (p := ⟨ga, j, none⟩) (fun b hb => Ne.symm (HAP.out ⟨ga, 0, none⟩ b rfl hb)) _, HAP.out, hn, hm⟩, HPP.out.far (p := ⟨ga, j, none⟩) d1 _, HBB.out.setCell (p := ⟨ga, j, none⟩) hga _, HSS.out.set (p := ⟨ga, j, none⟩) (.inl ⟨⟨ga, 0, none⟩, rfl, rfl⟩) _⟩
      case measure => simp [intOf]; omega
    · obtain rfl : j = n := by omega
      obtain ⟨p0, p1, p2, pf⟩ := P7.cells3
      clear P7
      go_wp2_with fail
      clear p0 p1 p2 pf
      go_loopw [21] (fun i wr => ∃ k : Nat, ∃ ys', k ≤ m ∧ i = .int .i64 k ∧ Mown wr lo A j c B m d xs' ys' ∧ Blk wr w.heap.size 25 (mcs A j c B m d f) ∧ Below lo w wr ∧ Spared A B w wr) (fun i _ => m - (intOf i).toNat)
      case atStart => exact ⟨0, _, Nat.zero_le _, rfl, HO.out, HPP.out, HBB.out, HSS.out⟩
      case round =>
        obtain ⟨k, ys', hk, rfl, ho, P7, hb3, hs3⟩ := hrel
        clear HO HPP HBB HSS
        have HO := hid ho; have HPP := hid P7; have HBB := hid hb3; have HSS := hid hs3
        clear hb3 ho hs3
        by_cases hkl : k < m
        · obtain ⟨gb, rfl, hgb, _, a0, af⟩ := HO.out.ob.at_ false hkl
          have d1 : w.heap.size ≠ gb := by
            obtain ⟨gb', hq, _, hgb4, _⟩ := HH.out.ob.at_ false hkl
            obtain rfl : gb = gb' := by simpa using hq
            omega
          obtain ⟨p0, p1, p2, pf⟩ := P7.cells3
          have HAP := hid HO.out.apart
          clear P7
          generalize ys'[k]?.getD false = y at *
          go_upto_region 9 with fail
          go_region
          go_wp2_with fail
          go_roundw
          case rel => exact ⟨k + 1, _, by omega, by go_num, Mown.drew ⟨HO.out.oa.farO (p := ⟨gb, k, none⟩) (fun a ha => HAP.out a ⟨gb, 0, none⟩ ha rfl) _, HO.out.ob.stored k _, HAP.out, hn, hm⟩, (HPP.out.far (p := ⟨gb, k, none⟩) d1 _).drew, (HBB.out.setCell (p := ⟨gb, k, none⟩) hgb _).drew, HSS.out.set (p := ⟨gb, k, none⟩) (.inr ⟨⟨gb, 0, none⟩, rfl, rfl⟩) _⟩
          case measure => simp [intOf]; omega
        · obtain rfl : k = m := by omega
          clear P7
          go_wp2_with fail
          go_end0
          exact ⟨⟨_, rfl⟩, HBB.out, HSS.out⟩
end Go.Proofs.Ytenhojdhjfoomaa
