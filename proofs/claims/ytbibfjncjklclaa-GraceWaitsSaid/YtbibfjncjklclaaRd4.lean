/- package reader: Check, where the rows may be: the loop over sections. No condition but sizes. -/
import Derived.Test.YtbibfjncjklclaaRd3
import Derived.Test.YtbibfjncjklclaaKitA
namespace Go.Proofs.Ytbibfjncjklclaa
open Go.RowKit Go.Shelf Go.Maps
attribute [local go_sem] Oper.semAt_some

/-- the map of what was met -/
def metD {H : Type} (pre : List (Int × Int)) : DataW H := pre.foldl (fun D x => D.put (.int .i64 x.2) (.lit (.int .i64 1))) (.map [])
theorem metD_snoc {H : Type} (pre : List (Int × Int)) (x : Int × Int) : metD (H := H) (pre ++ [x]) = (metD pre).put (.int .i64 x.2) (.lit (.int .i64 1)) := by simp [metD]
theorem metD_fold {H : Type} (a : Int) : ∀ (pre : List (Int × Int)) (D : DataW H), IsMap D → IsMap (pre.foldl (fun D x => D.put (.int .i64 x.2) (.lit (.int .i64 1))) D) ∧
    (pre.foldl (fun D x => D.put (.int .i64 x.2) (.lit (.int .i64 1))) D).atKey (.int .i64 a) (.lit (.int .i64 0)) = (if a ∈ pre.map Prod.snd then .lit (.int .i64 1) else D.atKey (.int .i64 a) (.lit (.int .i64 0)))
  | [], D, h => by simpa using h
  | x :: pre, D, h => by
    obtain ⟨h1, h2⟩ := metD_fold a pre (D.put (.int .i64 x.2) (.lit (.int .i64 1))) (h.put _ _)
    refine ⟨h1, ?_⟩
    rw [List.foldl_cons, h2]
    by_cases e : a ∈ pre.map Prod.snd
    · simp [e]
    · rw [if_neg e]
      by_cases e2 : a = x.2
      · subst e2
        rw [atKey_put_same h (by unfold WideAt.IsKeyLit; trivial)]
        simp
      · rw [atKey_put_other (fun h => e2 (by injection h))]
        simp [e2] at e ⊢
        simp [e]
theorem metD_at {H : Type} (pre : List (Int × Int)) (a : Int) : (metD (H := H) pre).atKey (.int .i64 a) (.lit (.int .i64 0)) = .lit (.int .i64 (if a ∈ pre.map Prod.snd then 1 else 0)) := by
  have := (metD_fold (H := H) a pre (.map []) isMap_empty).2
  rw [metD, this]
  by_cases e : a ∈ pre.map Prod.snd
  · rw [if_pos e, if_pos e]
  · rw [if_neg e, if_neg e]; rfl
theorem atsOk_snoc {now : Int} {l : List Int} {a : Int} : AtsOk now (l ++ [a]) ↔ AtsOk now l ∧ 1 ≤ a ∧ a ≤ now ∧ a ∉ l := by
  unfold AtsOk
  constructor
  · rintro ⟨h1, h2⟩
    rw [List.nodup_append] at h2
    refine ⟨⟨fun b hb => h1 b (by simp [hb]), h2.1⟩, (h1 a (by simp)).1, (h1 a (by simp)).2, fun hb => h2.2.2 a hb a (by simp) rfl⟩
  · rintro ⟨⟨h1, h2⟩, h3, h4, h5⟩
    refine ⟨fun b hb => ?_, ?_⟩
    · rcases List.mem_append.1 hb with hb | hb
      · exact h1 b hb
      · simp at hb; subst hb; exact ⟨h3, h4⟩
    · rw [List.nodup_append]
      exact ⟨h2, by simp, fun b hb c hc e => by simp at hc; subst hc; exact h5 (e ▸ hb)⟩

theorem secL_prefix (ns os : List Int) {k : Nat} : ∀ {n : Nat}, k ≤ n → secL ns os k <+: secL ns os n
  | 0, h => by obtain rfl : k = 0 := by omega
               exact List.prefix_rfl
  | n + 1, h => by
    by_cases e : k = n + 1
    · subst e; exact List.prefix_rfl
    · have ih := secL_prefix ns os (k := k) (n := n) (by omega)
      rw [secL]
      split
      · exact ih.trans (List.prefix_append _ _)
      · exact ih
theorem atsOk_prefix {now : Int} {a b : List (Int × Int)} (h : a <+: b) (hb : AtsOk now (b.map Prod.snd)) : AtsOk now (a.map Prod.snd) := by
  obtain ⟨t, rfl⟩ := h
  rw [List.map_append] at hb
  exact ⟨fun x hx => hb.1 x (List.mem_append_left _ hx), (List.nodup_append.1 hb.2).1⟩

set_option maxRecDepth 100000 in
set_option maxHeartbeats 4000000 in
theorem check_ats {H : Type} (now : Int) (A : Option Addr) (n c : Nat) (B : Option Addr) (d lo : Nat) (ns os : List Int) (w : World) (hx : Sl i64 0 w lo w.heap.size A n ns) (hy : Sl i64 0 w lo w.heap.size B n os) (h1 : 1 ≤ n) (h8 : n ≤ 8) (h3 : 0 ≤ now) (h4 : now ≤ 2147483647) (hs : ∀ k, k < n → RowOk ns os k) :
    CallsIn Fence.wide 5 Try.prog 40 #[rv now A n c B n d] w fun e w' => e = .returned (.int .i64 (if AtsOk now ((secL ns os n).map Prod.snd) then 0 else 210)) ∧ Below w.heap.size w w' := by
  have hB := below_then (below_then (below_box w (.cells #[.int .i64 now, .slice A n c, .slice B n d] 24)) (below_box _ (.map #[] 0))) (below_box _ (.cells #[.map (some (w.heap.size + 1))] 63))
  obtain ⟨k0, k1, k2, kf⟩ := (Blk.new w 24 #[.int .i64 now, .slice A n c, .slice B n d]).cells3
  have P := ((Blk.new w 24 #[.int .i64 now, .slice A n c, .slice B n d]).step (below_box _ (.map #[] 0))).step (below_box _ (.cells #[.map (some (w.heap.size + 1))] 63))
  have SX := (hx.mono (Nat.le_refl _) (Nat.le_refl _)).step hB
  have SY := (hy.mono (Nat.le_refl _) (Nat.le_refl _)).step hB
  have hmm := @run_makeMap Try.prog
  have i1 : ¬ (n : Int) < 1 := by omega
  have i2 : ¬ (8 : Int) < (n : Int) := by omega
  have HP := hid P; have HX := hid SX; have HY := hid SY; have HB := hid hB; have HSx := hid hx; have HSy := hid hy
  have HR := hid hs
  clear P SX SY hB hx hy hs
  refine callsIn_of_wp_marks Try.func40 rfl trivial ?_ rfl
  simp only [Try.ntmps40, List.size_toArray, List.length_cons, List.length_nil, Nat.reduceAdd, Nat.reduceSub, Array.replicate_succ, Array.replicate_zero, List.push_toArray, List.append_toArray, List.nil_append, List.cons_append]
  refine wpIn_wide.2 ?_
  go_wp2_with fail
  go_step3
  go_wp2_with fail
  clear k0 k1 k2 kf hmm
  have hz0 : (((w.alloc (.cells #[.int .i64 now, .slice A n c, .slice B n d] 24)).alloc (.map #[] 0)).alloc (.cells #[.map (some (w.heap.size + 1))] 63)).heap.size = w.heap.size + 3 := by simp
  have HM := hid ((World.ownsMap_made (w.alloc (.cells #[.int .i64 now, .slice A n c, .slice B n d] 24)) Try.prog 3 (plainElem (H := H) Try.prog 3)).alloc (.cells #[.map (some (w.heap.size + 1))] 63))
  have HMB := hid (Blk.new2 (w.alloc (.cells #[.int .i64 now, .slice A n c, .slice B n d] 24)) 63 #[.map (some (w.heap.size + 1))] (.map #[] 0))
  simp only [World.size_alloc] at HM HMB
  generalize ((w.alloc (.cells #[.int .i64 now, .slice A n c, .slice B n d] 24)).alloc (.map #[] 0)).alloc (.cells #[.map (some (w.heap.size + 1))] 63) = W0 at *
  have HZ0 := hid hz0
  clear hz0
  go_loopw [42] (fun i wr => ∃ k : Nat, k ≤ n ∧ i = .int .i64 k ∧ wr = W0) (fun i _ => n - (intOf i).toNat)
  case atStart => exact ⟨0, Nat.zero_le _, rfl, rfl⟩
  case round =>
    obtain ⟨k, hk, rfl, rfl⟩ := hrel
    by_cases hlt : k < n
    · obtain ⟨k0, k1, k2, kf⟩ := HP.out.cells3
      obtain ⟨b, off, rfl, _, _, hc⟩ := HX.out.row (by omega)
      have g : wr.cell? ⟨b, off + k, none⟩ = some (.int .i64 (ns[k]?.getD 0)) := hc k hlt
      obtain ⟨b', off', rfl, _, _, hc'⟩ := HY.out.row (by omega)
      have g' : wr.cell? ⟨b', off' + k, none⟩ = some (.int .i64 (os[k]?.getD 0)) := hc' k hlt
      clear hc hc'
      obtain ⟨x, hX⟩ : ∃ x, x = ns[k]?.getD 0 := ⟨_, rfl⟩
      obtain ⟨y, hY'⟩ : ∃ y, y = os[k]?.getD 0 := ⟨_, rfl⟩
      rw [← hX] at g
      rw [← hY'] at g'
      obtain ⟨e1, e2, e3⟩ : 0 ≤ x ∧ x ≤ 8 ∧ (x = 0 → y = 0) := by have := HR.out k hlt; unfold RowOk at this; rwa [← hX, ← hY'] at this
      have E1 : ¬ x < 0 := by omega
      have E2 : ¬ 8 < x := by omega
      clear hX hY' e1 e2
      by_cases e4 : x = 0
      · obtain rfl : y = 0 := e3 e4
        subst e4
        clear e3
        go_wp2
        go_roundw
        case rel => exact ⟨k + 1, by omega, by go_num, trivial⟩
        case measure => simp [intOf]; omega
      · have e3' : (x == 0) = false := by simpa using e4
        clear e3
        go_wp2
        go_roundw
        case rel => exact ⟨k + 1, by omega, by go_num, trivial⟩
        case measure => simp [intOf]; omega
    · obtain rfl : n = k := by omega
      obtain ⟨k0, k1, k2, kf⟩ := HP.out.cells3
      go_wp2_with fail
      go_step3
      have P1 := HP.out.alloc (.cells #[.bool true] 4)
      have POK := Blk.new wr 4 #[.bool true]
      have HM1 := HM.out.alloc (.cells #[.bool true] 4)
      have MB1 := HMB.out.alloc (.cells #[.bool true] 4)
      have hz1 : (wr.alloc (.cells #[.bool true] 4)).heap.size = w.heap.size + 4 := by have := HZ0.out; simp; omega
      have hB1 := below_then HB.out (below_box wr (.cells #[.bool true] 4))
      obtain ⟨q0, q1, q2, qf⟩ := P1.cells3
      have HZ1 := hid hz1
      clear k0 k1 k2 kf hz1
      go_wp2_with fail
      generalize wr.alloc (.cells #[.bool true] 4) = W1 at *
      clear q0 q1 q2 qf
      refine (sections_any _ _ _ _ _ _ _ _).mono ?_
      rintro e W2 ⟨rfl, rfl⟩
      go_wp2_with fail
      have B2 := Blk.new W1 24 #[.int .i64 now, .slice A n c, .slice B n d]
      have hs2 : (W1.alloc (.cells #[.int .i64 now, .slice A n c, .slice B n d] 24)).heap.size = W1.heap.size + 1 := by simp
      replace P1 := P1.alloc (.cells #[.int .i64 now, .slice A n c, .slice B n d] 24)
      replace POK := POK.alloc (.cells #[.int .i64 now, .slice A n c, .slice B n d] 24)
      replace MB1 := MB1.alloc (.cells #[.int .i64 now, .slice A n c, .slice B n d] 24)
      replace HM1 := HM1.alloc (.cells #[.int .i64 now, .slice A n c, .slice B n d] 24)
      have hB2 := below_then hB1 (below_box W1 (.cells #[.int .i64 now, .slice A n c, .slice B n d] 24))
      generalize W1.alloc (.cells #[.int .i64 now, .slice A n c, .slice B n d] 24) = W2 at *
      have hz0 := HZ0.out; have hz1 := HZ1.out
      refine (wpIn_wide (n := 5)).1 ?_
      refine' wpIn_rangeFunc_ownG rfl (by omega) (gf := 73) (lb := #[.pointer (some ⟨W1.heap.size, 0, none⟩)]) rfl trivial (enters_of Try.func73 (by kernel_rfl) rfl)
        (sec_stops (5 - 1) W1.heap.size w.heap.size now A n c B d lo ns os (by omega) (by omega) W2 (by omega) (by omega) B2 (HSx.out.below hB2 (Nat.le_refl _)) (HSy.out.below hB2 (Nat.le_refl _))) (fun h k => h.trans k) (keepsBox_put (by omega) (by omega)) (Below.refl _ _) (fun _ => rfl)
        (fun pre W => (Blk W w.heap.size 24 #[.int .i64 now, .slice A n c, .slice B n d] ∧ Blk W wr.heap.size 4 #[.bool true] ∧ Blk W (w.heap.size + 1 + 1) 63 #[.map (some (w.heap.size + 1))] ∧ W.ownsMap Try.prog 3 (plainElem (H := H) Try.prog 3) (w.heap.size + 1) pre.length (metD pre) ∧ AtsOk now (pre.map Prod.snd) ∧ W1.heap.size < W.heap.size) ∧ Below w.heap.size w W)
        (fun cc pre W => (cc = .exit 2 ∧ Blk W wr.heap.size 4 #[.bool false] ∧ ¬ AtsOk now (pre.map Prod.snd)) ∧ Below w.heap.size w W)
        ?own ?ownx ?start _ ?assign ?body ?done ?stop
      all_goals clear hz0 hz1
      case assign =>
        intro l x W K hK
        gi_wp2
        exact hK
      case own => exact OwnFrom.and (fun s A B row hs hg hr => ⟨hs.1.abides hg (fun r e => (hr r e).2), hs.2.1.abides hg (fun r e => (hr r e).2), hs.2.2.1.abides hg (fun r e => (hr r e).2), hs.2.2.2.1.kept hg (fun e => by have := (hr _ e.symm).1; have := HZ0.out; have := HZ1.out; omega), hs.2.2.2.2.1, Nat.lt_of_lt_of_le hs.2.2.2.2.2 hg.size⟩) (ownFrom_below (Nat.le_refl _) (by have := HZ0.out; have := HZ1.out; omega))
      case ownx => exact fun cc => OwnFrom.and (fun s A B row hs hg hr => ⟨hs.1, hs.2.1.abides hg (fun r e => (hr r e).2), hs.2.2⟩) (ownFrom_below (Nat.le_refl _) (by have := HZ0.out; have := HZ1.out; omega))
      case start => exact ⟨⟨P1, POK, MB1, HM1, by simp [AtsOk], by omega⟩, hB2⟩
      case body =>
        rintro l pre ⟨cpu, a⟩ W ⟨⟨P, POK, MB, HM2, hats, hsW⟩, hBr⟩ hlt
        obtain ⟨k0, k1, k2, kf⟩ := P.cells3
        obtain ⟨o0, of⟩ := POK.cells1
        obtain ⟨m0, mf⟩ := MB.cells1
        have g84 : (W.setCell ⟨wr.heap.size, 0, none⟩ (.bool false)).cell? ⟨wr.heap.size, 0, none⟩ = some (.bool false) := (POK.setCell 0 (.bool false)).cells1.1
        by_cases g1 : 1 ≤ a
        · by_cases g2 : a ≤ now
          · have hwf : (Lit.int .i64 a).wf = true := by simp [Lit.wf, IntKind.min, IntKind.max, IntKind.bits, IntKind.signed]; omega
            have hkey := Maps.keyOf_int_mk Try.underlying3 hwf
            obtain ⟨c0, hrun, hat, _⟩ := HM2.lookup_int (Maps.int_keyed Try.underlying3) Try.underlying63 Try.underlying3 (by kernel_rfl) hkey
            rw [metD_at] at hat
            by_cases hin : a ∈ pre.map Prod.snd
            · rw [if_pos hin] at hat
              obtain rfl : 1 = c0 := by simpa using hat
              clear hat
              gi_wp2
              have hz0 := HZ0.out; have hz1 := HZ1.out
              refine ⟨KeepsFrom.of_grownBy (grownBy_setCell' _ _ _) (fun j e => by cases e; omega), ⟨rfl, POK.setCell 0 (.bool false), ?_⟩, hBr.setCell (by simp; omega) _⟩
              rw [List.map_append]
              exact fun h => (atsOk_snoc.1 h).2.2.2 hin
            · rw [if_neg hin] at hat
              obtain rfl : 0 = c0 := by simpa using hat
              clear hat
              have POK2 := POK.setCell 0 (.bool true)
              have hcT := POK2.cells1.1
              have MB2 := MB.far (p := ⟨wr.heap.size, 0, none⟩) (by have := HZ0.out; simp; omega) (.bool true)
              have hcM := MB2.cells1.1
              have HM3 := HM2.kept (grownBy_setCell' W wr.heap.size (.bool true)) (by have := HZ0.out; simp; omega)
              have hlt' : pre.length < maxLen := by unfold maxLen; omega
              have P3 := P.far (p := ⟨wr.heap.size, 0, none⟩) (by have := HZ0.out; simp; omega) (.bool true)
              gi_wp2_with (gi_at_mapUpdate; refine wpListIn_mapUpdate_own _ rfl _ _ _ 63 rfl 3 3 (Maps.int_keyed Try.underlying3) Try.underlying63 (plainElem (H := H) Try.prog 3) (w.heap.size + 1) pre.length (metD pre) rfl HM3 hlt' _ _ _ rfl rfl hkey _ [] (plainElem_int Try.underlying3 (by decide)) ?_; intro w1 hown1 hgrow1)
              have hz0 := HZ0.out; have hz1 := HZ1.out
              have hg2 := grownBy_setCell' W wr.heap.size (.bool true)
              refine ⟨(KeepsFrom.of_grownBy hg2 (fun j e => by cases e; omega)).trans (KeepsFrom.of_grownBy hgrow1 (fun j e => by cases e; omega)), ⟨?_, ?_⟩, ⟨P3.grown hgrow1 (by simp <;> omega), POK2.grown hgrow1 (by simp <;> omega), MB2.grown hgrow1 (by simp), ?_, ?_, ?_⟩, (hBr.setCell (by simp; omega) _).grown hgrow1 (by have := hBr.size; simp <;> omega) (fun j e => by cases e; omega)⟩
              · exact ((Below.refl _ _).setCell (by simp; omega) _).grown hgrow1 (by have := hBr.size; simp <;> omega) (fun j e => by cases e; omega)
              · rw [hgrow1.block _ (by simp; omega) (by simp; omega)]
                exact Below.heap_setCell _ _ _ _ (by simp; omega)
              · rw [List.length_append, metD_snoc]; exact hown1
              · rw [List.map_append]; exact atsOk_snoc.2 ⟨hats, g1, g2, hin⟩
              · have := hgrow1.size; simp at this; omega
          · have g2' : decide (a ≤ now) = false := by simpa using g2
            gi_wp2
            have hz0 := HZ0.out; have hz1 := HZ1.out
            refine ⟨KeepsFrom.of_grownBy (grownBy_setCell' _ _ _) (fun j e => by cases e; omega), ⟨rfl, POK.setCell 0 (.bool false), ?_⟩, hBr.setCell (by simp; omega) _⟩
            rw [List.map_append]
            exact fun h => by have h' : a ≤ now := (atsOk_snoc.1 h).2.2.1; omega
        · have g1' : decide (1 ≤ a) = false := by simpa using g1
          gi_wp2
          have hz0 := HZ0.out; have hz1 := HZ1.out
          refine ⟨KeepsFrom.of_grownBy (grownBy_setCell' _ _ _) (fun j e => by cases e; omega), ⟨rfl, POK.setCell 0 (.bool false), ?_⟩, hBr.setCell (by simp; omega) _⟩
          rw [List.map_append]
          exact fun h => by have h' : 1 ≤ a := (atsOk_snoc.1 h).2.1; omega
      case done =>
        rintro D xs W hD rfl ⟨⟨P, POK, MB, HM2, hats, hsW⟩, hBr⟩ hK
        obtain ⟨o0, of⟩ := POK.cells1
        have E := hid (show (if AtsOk now ((secL ns os n).map Prod.snd) then (0 : Int) else 210) = 0 from if_pos hats)
        go_wp2
        rw [Exit.noGoto_ret]
        refine ⟨by simp, .inl ⟨_, _, rfl, run_takeDeferred hK, ?_⟩⟩
        exact ⟨.int .i64 0, by simp [results, Try.results40, go_sem], by rw [E.out], hBr.trans (belowK_b (w := w) (Nat.le_refl _) _ D _ _ (by have := HZ1.out; omega) hK rfl rfl)⟩
      case stop =>
        rintro D cc pre W hD ⟨k, hk, _, rfl⟩ ⟨⟨rfl, POK, hats⟩, hBr⟩ hK
        obtain ⟨o0, of⟩ := POK.cells1
        have E := hid (show (if AtsOk now ((secL ns os n).map Prod.snd) then (0 : Int) else 210) = 210 from if_neg (fun h => hats (atsOk_prefix (secL_prefix ns os hk) h)))
        gi_wp2
        go_wp2
        rw [Exit.noGoto_ret]
        refine ⟨by simp, .inl ⟨_, _, rfl, run_takeDeferred hK, ?_⟩⟩
        exact ⟨.int .i64 210, by simp [results, Try.results40, go_sem], by rw [E.out], hBr.trans (belowK_b (w := w) (Nat.le_refl _) _ D _ _ (by have := HZ1.out; omega) hK rfl rfl)⟩

theorem calls_of_callsIn5 {f : FuncId} {args : Array Value} {w : World} {R : Ending → World → Prop} (h : CallsIn Fence.wide 5 Try.prog f args w R) : Calls Try.prog f args w R := callsIn_wide.1 h
end Go.Proofs.Ytbibfjncjklclaa
