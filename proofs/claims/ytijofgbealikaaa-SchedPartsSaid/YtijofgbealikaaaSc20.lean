/- package sched: Rounds. No condition but sizes. -/
import Derived.Test.YtijofgbealikaaaSc19
namespace Go.Proofs.Ytijofgbealikaaa
open Go.RowKit Go.Shelf
attribute [local go_sem] Oper.semAt_some
def roundsC (c : Int) (xs : List Int) : Int := if SchR c xs then ((rdF c.toNat xs xs.length).1 : Int) else 0
set_option maxRecDepth 100000 in
set_option maxHeartbeats 4000000 in
theorem srounds_in (c : Int) (P : Option Addr) (n k : Nat) (xs : List Int) (w : World) (h : Sl i64 0 w 0 w.heap.size P n xs) (hn : n ≤ 1000000) :
    CallsIn Fence.wide 5 Try.prog 16 #[.int .i64 c, .slice P n k] w fun e w' => e = .returned (.int .i64 (roundsC c xs)) ∧ Below w.heap.size w w' := by
  have HR := hid h; have HB := hid (Below.refl w.heap.size w); have hl := hid h.len
  clear h
  have bx := below_box w (.cells #[.int .i64 0] 3)
  replace HB := hid (below_then HB.out bx)
  clear bx
  have PN := hid (Blk.new w 3 #[.int .i64 0])
  replace HR := hid (HR.out.below (below_box w (.cells #[.int .i64 0] 3)) (Nat.le_refl _))
  refine callsIn_of_wp_marks Try.func16 rfl trivial ?_ rfl
  simp only [Try.ntmps16, List.size_toArray, List.length_cons, List.length_nil, Nat.reduceAdd, Nat.reduceSub, Array.replicate_succ, Array.replicate_zero, List.push_toArray, List.append_toArray, List.nil_append, List.cons_append]
  refine wpIn_wide.2 ?_
  obtain ⟨y00, yf0⟩ := PN.out.cells1
  go_wp2_with fail
  clear y00 yf0
  skip
  have hz0 := hid (show (w.alloc (.cells #[.int .i64 0] 3)).heap.size = w.heap.size + 1 by simp)
  generalize w.alloc (.cells #[.int .i64 0] 3) = W0 at *
  have HR1 := HR
  refine (scheck_any c P n k xs W0 (HR.out.mono (Nat.zero_le _) (by have := hz0.out; omega)) hn).mono ?_
  rintro e w1 ⟨rfl, hb⟩
  replace HR1 := hid (HR.out.below hb (by have := hz0.out; omega))
  replace PN := hid (PN.out.step hb); replace HB := hid (below_then HB.out hb)
  clear hb HR
  by_cases hs : SchR c xs
  rotate_left
  · have e1 : scheckC c xs = 140 := if_neg hs
    have E2 := hid (show roundsC c xs = 0 from if_neg hs)
    rw [e1]
    clear e1 hs
    obtain ⟨y00, yf0⟩ := PN.out.cells1
    go_wp2
    exact ⟨_, (by simp [results, Try.results16, go_sem]), ret_int E2.out.symm, HB.out⟩
  have e1 : scheckC c xs = 0 := if_pos hs
  have E2 := hid (show roundsC c xs = ((rdF c.toNat xs xs.length).1 : Int) from if_pos hs)
  rw [e1]
  have HS := hid hs
  clear e1 hs
  obtain ⟨m, rfl⟩ := Int.eq_ofNat_of_zero_le (show 0 ≤ c by have := HS.out.1; omega)
  have hm := HS.out.1
  rw [Int.toNat_natCast] at E2
  go_wp2_with fail
  have hs1 := hid (show w.heap.size < w1.heap.size from PN.out.lt)
  refine (rounds_any m P n k w1).mono ?_
  rintro e W7' ⟨rfl, hw7⟩
  have bx := below_box w1 (.cells #[.int .i64 m] 3)
  replace PN := hid (PN.out.step bx); replace HB := hid (below_then HB.out bx)
  clear bx
  have BC := hid (Blk.new w1 3 #[.int .i64 m])
  have bx := below_box (w1.alloc (.cells #[.int .i64 m] 3)) (.cells #[.slice P n k] 22)
  replace PN := hid (PN.out.step bx); replace BC := hid (BC.out.step bx); replace HB := hid (below_then HB.out bx)
  clear bx
  have BP := hid (Blk.new2 w1 22 #[.slice P n k] (.cells #[.int .i64 m] 3))
  have HR2 := hid (HR1.out.below (below_then (below_box w1 (.cells #[.int .i64 m] 3)) (below_box _ (.cells #[.slice P n k] 22))) (by have := hs1.out; omega))
  have hz7 := hid (show ((w1.alloc (.cells #[.int .i64 m] 3)).alloc (.cells #[.slice P n k] 22)).heap.size = w1.heap.size + 2 by simp)
  subst hw7
  go_wp2_with fail
  generalize (w1.alloc (.cells #[.int .i64 m] 3)).alloc (.cells #[.slice P n k] 22) = W7 at *
  clear HR1
  have hsz7 : w.heap.size < w1.heap.size ∧ W7.heap.size = w1.heap.size + 2 := ⟨hs1.out, hz7.out⟩
  refine (wpIn_wide (n := 5)).1 ?_
  refine' wpIn_rangeFunc_fresh rfl (by omega) (gf := 40) (lb := #[ptr (w1.heap.size + 1), ptr w1.heap.size]) rfl trivial (enters_of Try.func40 (by kernel_rfl) rfl)
    (rounds_seq (5 - 1) m (w1.heap.size + 1) w1.heap.size w.heap.size W7.heap.size w.heap.size P n k xs W7 (by omega) hn (by omega) (by omega) HS.out.2 BP.out BC.out HR2.out (by omega) (Nat.le_refl _) ⟨by omega, by omega⟩ ⟨by omega, by omega⟩ (Nat.le_refl _)) (Below.refl _ _) (fun _ => rfl)
    (fun A B C => KpO.trans A B C) (fun W l o hl => KpO.put W o hl)
    (fun k W => Blk W w.heap.size 3 #[.int .i64 k] ∧ Below w.heap.size w W) (fun _ _ _ => False)
    (fun k A B hI hb => ⟨hI.1.below hb (by omega), hI.2.trans ⟨hb.os, hb.tape, hb.output, hb.size, fun i hi => hb.block i (by omega)⟩⟩) (fun _ _ _ _ h _ => h) ⟨PN.out, HB.out⟩ _ ?assign ?body ?done ?stop
  case assign =>
    intro l' k' W K hK
    have HK := hid hK
    clear hK
    gi_wp2_with fail
    exact HK.out
  case stop => exact fun _ _ _ _ _ h => h.elim
  case body =>
    rintro l' j W hk hW7 ⟨h1, h2⟩
    have P1 := hid h1; have HBW := hid h2
    clear h1 h2
    have hw1 : IntKind.i64.wrap ((j : Int) + 1) = ((j + 1 : Nat) : Int) := by rw [IntKind.wrap_i64]; have := rdF_le m xs n; omega
    obtain ⟨y00, yf0⟩ := P1.out.cells1
    gi_wp2_with fail
    have hgr := grownBy_setCell' W w.heap.size (.int .i64 ((j + 1 : Nat) : Int))
    exact ⟨KeptFrom.ofGrown hgr (by omega), ⟨P1.out.setCell 0 _, HBW.out.setCell (p := ⟨w.heap.size, 0, none⟩) (Nat.le_refl _) _⟩, KpO.ofGrown hgr (by omega)⟩
  case done =>
    rintro b W hb ⟨h1, h2⟩ hD
    have P1 := hid h1; have HBW := hid h2; have HD := hid (show W.heap[b]? = some (.deferred (some [])) from hD)
    clear h1 h2 hD
    obtain ⟨y00, yf0⟩ := P1.out.cells1
    go_wp2
    refine ⟨by simp, .inl ⟨_, _, rfl, run_takeDeferred HD.out, ?_⟩⟩
    exact ⟨.int .i64 (rdF m xs n).1, (by simp [results, Try.results16, go_sem]), ret_int (by rw [E2.out, hl.out]), HBW.out.trans (below_put _ (by omega))⟩
theorem srounds_any (c : Int) (P : Option Addr) (n k : Nat) (xs : List Int) (w : World) (h : Sl i64 0 w 0 w.heap.size P n xs) (hn : n ≤ 1000000) :
    Calls Try.prog 16 #[.int .i64 c, .slice P n k] w fun e w' => e = .returned (.int .i64 (roundsC c xs)) ∧ Below w.heap.size w w' := callsIn_wide.1 (srounds_in c P n k xs w h hn)
end Go.Proofs.Ytijofgbealikaaa
