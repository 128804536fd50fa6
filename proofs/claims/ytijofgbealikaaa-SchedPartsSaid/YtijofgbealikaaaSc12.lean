/- package sched: Split. No condition but sizes. -/
import Derived.Test.YtijofgbealikaaaSc11
namespace Go.Proofs.Ytijofgbealikaaa
open Go.RowKit
theorem info_rw : (Try.prog.info? 22).map (fun i => (i.zero, i.size, i.bytes)) = some (some (.slice none 0 0), 1, 24) := by kernel_rfl
theorem run_make_rw (n : Nat) (hn : n ≤ 1000000) (w : World) : (Instr.makeSlice 29 (.int .i64 n) (.int .i64 n)).run Try.prog w = .ok (.slice (some ⟨w.heap.size, 0, none⟩) n n) (w.alloc (.cells (zrow (.slice none 0 0) n) 22)) := by
  obtain ⟨i0, hi0, hz00, hz01, hz02⟩ := info_parts info_rw
  exact run_make1 Try.underlying29 hi0 hz00 hz01 rfl n (by rw [hz02]; omega) hn w
def splitC (c : Int) (xs : List Int) : List (List Int) := if SchR c xs then (List.range c.toNat).map (fun q : Nat => placesL xs (q : Int)) else []
theorem split_step {es : List RwE} {m p j : Nat} {xs : List Int} {x : RwE} (h : es.map Prod.fst = (List.range m).map (fun q : Nat => plF xs (q : Int) j)) (hp : p < m) (hx : xs[j]?.getD 0 = (p : Int)) (he : x.1 = plF xs (p : Int) (j + 1)) :
    (es.set p x).map Prod.fst = (List.range m).map (fun q : Nat => plF xs (q : Int) (j + 1)) := by
  rw [List.map_set, h]
  apply List.ext_getElem?
  intro k
  rw [List.getElem?_set, List.length_map, List.length_range]
  by_cases e : p = k
  · subst e
    rw [if_pos rfl, if_pos hp, he, List.getElem?_map, List.getElem?_range hp]
    rfl
  · rw [if_neg e, List.getElem?_map, List.getElem?_map]
    rcases Nat.lt_or_ge k m with hk | hk
    · rw [List.getElem?_range hk]
      show some (plF xs k j) = some (plF xs k (j + 1))
      rw [plF_succ, if_neg (by rw [hx]; omega)]
    · rw [List.getElem?_eq_none (by rw [List.length_range]; exact hk)]
      rfl
set_option maxHeartbeats 4000000 in
theorem ssplit_any (c : Int) (P : Option Addr) (n k : Nat) (xs : List Int) (w : World) (h : Sl i64 0 w 0 w.heap.size P n xs) (hn : n ≤ 1000000) :
    Calls Try.prog 13 #[.int .i64 c, .slice P n k] w fun e w' => (∃ A m d es, e = .returned (.slice A m d) ∧ Ow encR w' w.heap.size 22 A m d es ∧ RwAll w' w.heap.size es ∧ es.map Prod.fst = splitC c xs) ∧ Below w.heap.size w w' := by
  have HR := hid h; have HB := hid (Below.refl w.heap.size w); have HR0 := hid h; have hl := hid h.len
  clear h
  go_enter Try.func13, Try.ntmps13
  go_wp2_with fail
  refine (scheck_any c P n k xs w HR.out hn).mono ?_
  rintro e w1 ⟨rfl, hb⟩
  replace HR := hid (HR.out.step hb); replace HB := hid (below_then HB.out hb)
  clear hb
  by_cases hs : SchR c xs
  rotate_left
  · have e1 : scheckC c xs = 140 := if_neg hs
    have E2 := hid (show splitC c xs = [] from if_neg hs)
    rw [e1]
    clear e1 hs
    go_wp2
    go_ret
    exact ⟨⟨none, 0, 0, [], rfl, Ow.nil _ _ _, ⟨fun k hk => absurd hk (Nat.not_lt_zero _), fun k l hk => absurd hk (Nat.not_lt_zero _)⟩, E2.out.symm⟩, HB.out⟩
  have e1 : scheckC c xs = 0 := if_pos hs
  have E2 := hid (show splitC c xs = (List.range c.toNat).map (fun q : Nat => placesL xs (q : Int)) from if_pos hs)
  rw [e1]
  have HS := hid hs
  clear e1 hs
  obtain ⟨m, rfl⟩ := Int.eq_ofNat_of_zero_le (show 0 ≤ c by have := HS.out.1; omega)
  have hm := HS.out.1
  rw [Int.toNat_natCast] at E2
  have hmk := run_make_rw m (by omega)
  have hs1 := hid HB.out.size
  obtain ⟨i0, hi0, hz00, hz01, hz02⟩ := info_parts info_int
  go_wp2_with fail
  clear hmk HR
  have HI := hid (show ∃ es : List RwE, Ow encR (w1.alloc (.cells (zrow (.slice none 0 0) m) 22)) w.heap.size 22 (some ⟨w1.heap.size, 0, none⟩) m m es ∧ RwAll (w1.alloc (.cells (zrow (.slice none 0 0) m) 22)) w.heap.size es ∧ es.map Prod.fst = (List.range m).map (fun q : Nat => plF xs (q : Int) 0) from
    ⟨List.replicate m zRw, Ow.made (enc := encR) zRw hs1.out (by simp only [maxLen]; omega) rfl, RwAll.nils _ _ _, by rw [List.map_replicate]; symm; apply List.eq_replicate_iff.2; exact ⟨by simp, fun x hx => by obtain ⟨q, _, rfl⟩ := List.mem_map.1 hx; rfl⟩⟩)
  replace HB := hid (below_then HB.out (below_box w1 (.cells (zrow (.slice none 0 0) m) 22)))
  go_loopw [16] (fun i wr => ∃ j : Nat, j ≤ n ∧ i = .int .i64 j ∧ Below w.heap.size w wr ∧ ∃ es : List RwE, Ow encR wr w.heap.size 22 (some ⟨w1.heap.size, 0, none⟩) m m es ∧ RwAll wr w.heap.size es ∧ es.map Prod.fst = (List.range m).map (fun q : Nat => plF xs (q : Int) j)) (fun i _ => n - (intOf i).toNat)
  case atStart => exact ⟨0, Nat.zero_le _, rfl, HB.out, HI.out⟩
  case round =>
    clear HI HB
    obtain ⟨j, hj, rfl, h1, es, h2, h3, h4⟩ := hrel
    have HB := hid h1; have OR := hid h2; have RA := hid h3; have HE := hid h4
    clear h1 h2 h3 h4
    by_cases hjn : j < n
    · skip
      obtain ⟨b, off, rfl, _, hbh, hc⟩ := HR0.out.row (by omega)
      obtain ⟨x, hx⟩ : ∃ x, x = xs[j]?.getD 0 := ⟨_, rfl⟩
      have f0 := (HB.out.cell (p := ⟨b, off + j, none⟩) hbh).trans (hc j hjn)
      rw [← hx] at f0
      have hxr := all_at.1 HS.out.2 j (by rw [hl.out]; exact hjn)
      rw [← hx] at hxr
      have HX := hid hx
      obtain ⟨p, rfl⟩ := Int.eq_ofNat_of_zero_le hxr.1
      have hpm : p < m := by omega
      have hpi : (p : Int) < (m : Int) := by omega
      have hji : (j : Int) < (n : Int) := by omega
      have hw2 : IntKind.i64.wrap ((j : Int) + 1) = (j : Int) + 1 := by rw [IntKind.wrap_i64]; omega
      have hel := hid OR.out.len
      obtain ⟨⟨ys, A, n0, c0⟩, hy⟩ : ∃ y, y = es[p]?.getD zRw := ⟨_, rfl⟩
      have hro := RA.out.1 p (by rw [hel.out]; exact hpm)
      rw [← hy] at hro
      have HRO := hid hro; have HY := hid hy
      have hys := hid (show ys = plF xs (p : Int) j by
        have e := congrArg (fun l => l[p]?) HE.out
        simp only [List.getElem?_map] at e
        rw [List.getElem?_range hpm, List.getElem?_eq_getElem (show p < es.length by rw [hel.out]; exact hpm)] at e
        rw [List.getElem?_eq_getElem (show p < es.length by rw [hel.out]; exact hpm)] at hy
        simp only [Option.map_some, Option.some.injEq, Option.getD_some] at e hy
        rw [← hy] at e
        exact e)
      have hn0 := hid (show n0 ≤ j by have h := hro.len; dsimp only at h; rw [hys.out] at h; have := plF_len xs (p : Int) j; omega)
      obtain ⟨g2, e2, _, _, f1, ff⟩ := OR.out.at_ zRw hpm
      cases e2
      rw [← hy] at f1
      have f1' : wr.cell? ⟨w1.heap.size, p, none⟩ = some (.slice A n0 c0) := f1
      have hs := hid HB.out.size
      clear hx hc hxr hro hy f1
      go_wp2_with (at_builtin; refine wpList_app i64 0 _ rfl _ _ 22 rfl w.heap.size 3 i0 _ 8 Try.underlying22 hi0 hz00 hz01 hz02 rfl A n0 c0 ys rfl (HRO.out.alloc _) 0 _ _ 1 1 [(j : Int)] rfl ((Sl.one' rfl).mono (Nat.zero_le _) (Nat.le_refl _)) (fun _ => rfl) (by have := hn0.out; simp only [maxLen]; omega) (by have := hn0.out; omega) (by have := hs.out; simp; omega) ?_; intro A8 c8 w8 hown hgr hat; have HO8 := hid hown; have OR8 := hid ((OR.out.alloc (.cells #[.int .i64 (j : Int)] 3)).keptO (HRO.out.alloc (.cells #[.int .i64 (j : Int)] 3)) (by decide) hgr); have RA8 := hid ((RA.out.step (below_box wr (.cells #[.int .i64 (j : Int)] 3))).put (by rw [hel.out]; exact hpm) HY.out.symm hgr hat hown); have HB8 := hid (Below.grown (below_then HB.out (below_box wr (.cells #[.int .i64 (j : Int)] 3))) hgr (by have := hs.out; simp; omega) (fun k hk => HRO.out.row_ge k hk)); clear hown hgr hat f0 f1' ff; obtain ⟨g3, e3, _, _, f3, ff⟩ := OR8.out.at_ zRw hpm; cases e3)
      obtain ⟨_, cs, hbb⟩ := OR8.out.blk _ rfl
      have hgr := grown_set (World.grownBy.refl w8 (some w1.heap.size)) p (.slice A8 (n0 + 1) c8)
      go_roundw
      case rel => exact ⟨j + 1, by omega, by go_num, HB8.out.grown hgr HB8.out.size (fun r e => by cases e; exact hs1.out), _, OR8.out.stored p (ys ++ [(j : Int)], A8, n0 + 1, c8), RA8.out.kept hbb (by decide) hgr, split_step HE.out hpm HX.out.symm (by rw [plF_succ, if_pos HX.out.symm, ← hys.out])⟩
      case measure => simp [intOf]; omega
    obtain rfl : j = n := by omega
    have hnn : ¬ ((j : Int) < (j : Int)) := by omega
    go_wp2
    go_ret
    refine ⟨?_, HB.out⟩
    have hfin : es.map Prod.fst = splitC (m : Int) xs := by rw [E2.out, HE.out]; unfold placesL; rw [hl.out]
    first
    | exact ⟨_, _, _, es, rfl, OR.out, RA.out, hfin⟩
    | exact ⟨_, _, _, rfl, es, OR.out, RA.out, hfin⟩
end Go.Proofs.Ytijofgbealikaaa
