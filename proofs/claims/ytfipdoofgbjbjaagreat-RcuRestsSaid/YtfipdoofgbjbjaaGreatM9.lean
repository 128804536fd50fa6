/- Walks and plain laws for this claim, part 9. No condition but sizes. -/
import Derived.Test.YtfipdoofgbjbjaaGreatM8
import Derived.BigRegionIn
import Derived.Test.YtfipdoofgbjbjaaGreatM1
import Derived.Deep.RegionHeld
import Derived.Deep.DeepCutAuto
/- package rcu: the callbacks that are done, as one ranges over them. No condition but sizes. -/
namespace Go.Proofs.YtfipdoofgbjbjaaGreat
open Go.RowKit Go.Shelf
attribute [local go_sem] Oper.semAt_some
theorem rcdone_any (gc : Nat) (w : World) : Calls Tryz.prog 50 #[ptr gc] w fun e w' => e = .returned (.func (.func 87) #[] #[ptr w.heap.size]) ∧ w.alloc (.cells #[ptr gc] 72) = w' := by
  go_enter Tryz.func50, Tryz.ntmps50
  go_wp2
  go_ret
  exact ⟨rfl, rfl⟩
/-- behind j callbacks of a turn -/
def tJ (g : Gr) (qs : Qs) (ran : List Int) (k j : Nat) : Sv := ⟨g, drQ qs k j, ran ++ drR qs k j, k⟩
def RdS (l gc gb : Nat) (s : St) (g : Gr) (qs : Qs) (ran : List Int) (k j : Nat) (w : World) : Prop := Blk w gb 72 #[ptr gc] ∧ SA w l gc s (tJ g qs ran k j)
set_option maxRecDepth 100000 in
set_option maxHeartbeats 8000000 in
theorem rcdone_seq (M l gc gb : Nat) (s : St) (g : Gr) (qs : Qs) (ran : List Int) (k : Nat) (hm : 1 ≤ M) (hk : k < qs.length) (hn : qs.length ≤ 1000) (hl : (qAt qs k).1.length ≤ 16) (ho : (qAt qs k).2 ≤ 9223372036854775806) :
    ReadSeq Fence.wide M Tryz.prog 87 #[ptr gb] (fun j => #[.int .i64 j]) (drN qs k) (RdS l gc gb s g qs ran k) := by
  intro lp J Jx W hJB hRd hY hJ0
  refine callsIn_of_wp Tryz.func87 rfl trivial ?_ rfl
  simp only [Tryz.ntmps87, List.size_toArray, List.length_cons, List.length_nil, Nat.reduceAdd, Nat.reduceSub, Array.replicate_succ, Array.replicate_zero, List.push_toArray, List.append_toArray, List.nil_append, List.cons_append]
  have HJB := hid hJB; have HRD := hid hRd; have HY := hid hY; have HJ0 := hid hJ0; have HK := hid hk; have HL := hid hl; have HO := hid ho; have HN := hid hn
  have hle := hid (show drN qs k ≤ 16 from Nat.le_trans (doneN_le _ _) hl)
  clear hJB hRd hY hJ0 hl ho hn
  refine wpIn_wide.2 ?_
  go_wp2_with fail
  go_loopw [3] (fun n wr => ∃ j : Nat, j ≤ drN qs k ∧ n = .int .i64 j ∧ J j wr) (fun n _ => drN qs k - (intOf n).toNat)
  case atStart => exact ⟨0, Nat.zero_le _, rfl, HJ0.out⟩
  case round =>
    obtain ⟨j, hj, rfl, hJ⟩ := hrel
    have HJ := hid hJ
    obtain ⟨hpb, a, es, what, R, kr, hq, hca⟩ := HRD.out j wr hj hJ
    clear hJ
    have HB := hid (Below.refl wr.heap.size wr); have PB := hid hpb
    have hq : ql es = drQ qs k j := hq
    have hel : es.length = qs.length := by rw [← ql_len, hq, drQ_len]
    have hlen : a.nq = es.length := hca.qs.len.symm
    have hke : k < es.length := by omega
    have hka : k < a.nq := by omega
    have hat : qAt (drQ qs k j) k = ((es[k]?.getD zQe).l, (es[k]?.getD zQe).o) := by unfold qAt; rw [← hq, ql_at es hke]
    rw [drQ_at qs k j hk] at hat
    obtain ⟨hl1, hl2⟩ := Prod.mk.inj hat
    have hmem : es[k]?.getD zQe ∈ es := by rw [List.getElem?_eq_getElem hke]; exact List.getElem_mem _
    obtain ⟨gQ, hQ, _, _, _, _⟩ := hca.q_at hka
    obtain ⟨x, hx⟩ : ∃ x, es[k]?.getD zQe = x := ⟨_, rfl⟩
    rw [hx] at hl1 hl2 hmem
    have HX := hid hca.cx; have PC := hid hca.box; have HXX := hid hx; have HM := hid hmem; have HKA := hid hka
    have hki : (k : Int) < (a.nq : Int) := by omega
    clear hca hpb hlen hke hka hat hmem hx hel hq
    obtain ⟨A, n, kk, B, m, d, D, kd, Q, nq, kq⟩ := a
    dsimp only at hki
    obtain rfl : Q = some ⟨gQ, 0, none⟩ := hQ
    obtain ⟨now, ns, os⟩ := s
    obtain ⟨xl, xo, xA, xn, xc⟩ := x
    dsimp only at hl1 hl2
    have HL1 := hid hl1; have HL2 := hid hl2
    clear hl1 hl2
    have HJH := hid (show ∀ W2, Below wr.heap.size wr W2 → J j W2 from fun W2 hb => HJB.out j wr W2 HJ.out hb)
    clear HJ
    go_upto_region 2 with fail
    have HX0 := HX; have PB0 := PB; have PC0 := PC
    have bx := (Below.refl wr.heap.size wr).drew
    replace PB := hid (PB.out.step bx); replace HX := hid (HX.out.step bx); replace PC := hid (PC.out.step bx); replace HB := hid (below_then HB.out bx)
    clear bx
    have hszd := hid (show wr.drew.heap.size = wr.heap.size from rfl)
    refine wp_region_noPanic ?_
    refine wp_region_held_drew (S := (fun W' : World => W'.cell? ⟨gb, 0, none⟩ = some (ptr gc) ∧ W'.cell? ⟨gc, 7, none⟩ = some (.slice (some ⟨gQ, 0, none⟩) nq kq) ∧ W'.cell? ⟨gc, 8, none⟩ = some (.int .i64 k) ∧ W'.cell? ⟨gQ, k * 2, none⟩ = some (.slice xA xn xc) ∧ W'.cell? ⟨gQ, k * 2 + 1, none⟩ = some (.int .u64 xo))) (by kernel_rfl) ⟨PB.out.cells1.1, PC.out.cells11.2.2.2.2.2.2.2.1, PC.out.cells11.2.2.2.2.2.2.2.2.1, (HX.out.q0 rfl HKA.out HXX.out), (HX.out.q1 rfl HKA.out HXX.out)⟩ (fun hS => ?_)
    generalize wr.drew = Wd at *
    refine tk 0 hS ?_
    refine tk 1 hS ?_
    refine tk 2 hS ?_
    refine tk 3 hS ?_
    refine tk 4 hS ?_
    refine tk 5 hS ?_
    refine tk 6 hS ?_
    refine tk 7 hS ?_
    refine tk 8 hS ?_
    refine tk 9 hS ?_
    refine tk 10 hS ?_
    refine rdy [11] (csy (fun K hK => ?_) AllReadyH.nil)
    go_simp
    refine named_alloc ?_
    intro Wa11 hbk hb hsz
    have hsz0 := hid hsz
    have HGW := hid (show wr.heap.size ≤ Wd.heap.size by have := hszd.out; have := hsz0.out; omega)
    replace PB := hid (PB.out.step hb); replace HX := hid (HX.out.step hb); replace PC := hid (PC.out.step hb); replace HB := hid (below_then HB.out hb)
    have PZ := hid hbk
    clear hb hbk hsz
    clear hS
    refine ky hK ⟨PB.out.cells1.1, PC.out.cells11.2.2.2.2.2.2.2.1, PC.out.cells11.2.2.2.2.2.2.2.2.1, (HX.out.q0 rfl HKA.out HXX.out), (HX.out.q1 rfl HKA.out HXX.out)⟩ fun hS => ?_
    clear hK K
    refine rdy [12] (csy (fun K hK => ?_) AllReadyH.nil)
    obtain ⟨y00, y01, yf0⟩ := PZ.out.cells2
    go_simp
    clear y00 y01 yf0
    refine named_store2 PZ.out ?_
    intro Ws12 hbk hgr hsz
    have hsz1 := hid hsz
    clear hsz
    replace HB := hid (HB.out.grown hgr HB.out.size (fun r e => by cases e; exact HGW.out))
    replace PB := hid (PB0.out.step HB.out); replace PC := hid (PC0.out.step HB.out); replace HX := hid (HX0.out.step HB.out)
    replace PZ := hid hbk
    clear hbk hgr
    clear hS
    refine ky hK ⟨PB.out.cells1.1, PC.out.cells11.2.2.2.2.2.2.2.1, PC.out.cells11.2.2.2.2.2.2.2.2.1, (HX.out.q0 rfl HKA.out HXX.out), (HX.out.q1 rfl HKA.out HXX.out)⟩ fun hS => ?_
    clear hK K
    refine wpAnyH_done (by kernel_rfl) ?_ _
    refine NoPanic.normal ?_
    clear hS
    have HJ := hid (HJH.out _ HB.out)
    clear HJH PB PC PB0 PC0 HX0
    have HSM := hid (HX.out.qsm HM.out)
    clear HX HM
    by_cases hjn : j < drN qs k
    ·skip
     have hlt : j < (qAt qs k).1.length := Nat.lt_of_lt_of_le hjn (doneN_le _ _)
     have hxl : xl.length = (qAt qs k).1.length - j := by rw [← HL1.out, List.length_drop]
     have hxn : xl.length = xn := HSM.out.len
     have hper : perAt xl 0 ≤ xo := by
       have h1 := doneN_lt hjn
       rw [← HL2.out, ← HL1.out]
       unfold perAt at h1 ⊢
       rw [List.getElem?_drop, Nat.add_zero]; exact h1
     obtain ⟨b, off, rfl, _, _, hc⟩ := HSM.out.row (by omega)
     have f0 := hc 0 (by omega) 0 (by omega)
     obtain ⟨v, hv⟩ : ∃ v, v = perAt xl 0 := ⟨_, rfl⟩
     rw [← hv] at hper
     have HW1 := hid (show wrap64 ((j : Int) + 1) = (j : Int) + 1 by have := hle.out; unfold wrap64; omega)
     have HJ1 := hid (show j + 1 ≤ drN qs k from hjn)
     have HEQ := hid (show Value.int .i64 ((j : Int) + 1) = Value.int .i64 ((j + 1 : Nat) : Int) by rw [Int.natCast_succ])
     have HMS := hid (show drN qs k - (intOf (Value.int .i64 ((j : Int) + 1))).toNat < drN qs k - (intOf (Value.int .i64 (j : Int))).toNat by simp [intOf]; omega)
     have HV := hid hv
     replace f0 : Ws12.cell? ⟨b, off, none⟩ = some (.int .u64 v) := by rw [hv]; exact f0
     have hx0 : ((xn : Int) == 0) = false := by simp; omega
     have hxi : (0 : Int) < (xn : Int) := by omega
     have hxn2 : 0 < xn := by omega
     have hgt : ¬ (xo < v) := by omega
     have hyl := HY.out j Ws12.drew hjn (HJB.out j _ _ HJ.out (Below.refl _ _).drew)
     obtain ⟨fn, tmps, assign, body, hy, hR⟩ := hyl
     obtain ⟨y0, y1, yf⟩ := PZ.out.cells2
     clear hv hc hper hlt hxl hxn hjn
     go_upto_region 3 with fail
     refine (wpIn_wide (n := M)).1 ?_
     refine wpIn_region_any (by kernel_rfl) ?_
     change wpAnyIn _ _ _ _ _ _ _ _ _ (World.drew _)
     refine wpAnyIn_take (i := 0) (v := ?_) rfl rfl (by kernel_rfl) (by kernel_rfl) (by kernel_rfl) (fun _ _ _ h => h) ⟨Or.inl ⟨by rfl, ?_⟩, fun _ => rfl⟩ ?_
     rotate_left
     · intro w'; go_simp; (try with_reducible rfl)
     (try simp only [pt])
     refine wpAnyIn_ready (rs := [1]) (by kernel_rfl) (by simp) ?_
     refine AllReadyIn.cons rfl (fun K hK => ?_) ?_
     ·skip
      go_simp
      refine hK _ _ ?_
      clear hK K
      (try simp only [pt])
      refine wpAnyIn_take (i := 2) (v := ?_) rfl rfl (by kernel_rfl) (by kernel_rfl) (by kernel_rfl) (fun _ _ _ h => h) ⟨Or.inl ⟨by rfl, ?_⟩, fun _ => rfl⟩ ?_
      rotate_left
      · intro w'; go_simp; (try with_reducible rfl)
      (try simp only [pt])
      refine wpAnyIn_take (i := 3) (v := ?_) rfl rfl (by kernel_rfl) (by kernel_rfl) (by kernel_rfl) (fun _ _ _ h => h) ⟨Or.inl ⟨by rfl, ?_⟩, fun _ => rfl⟩ ?_
      rotate_left
      · intro w'; go_simp; (try with_reducible rfl)
      (try simp only [pt])
      refine wpAnyIn_take (i := 4) (v := ?_) rfl rfl (by kernel_rfl) (by kernel_rfl) (by kernel_rfl) (fun _ _ _ h => h) ⟨Or.inl ⟨by rfl, ?_⟩, fun _ => rfl⟩ ?_
      rotate_left
      · intro w'; go_simp; (try with_reducible rfl)
      (try simp only [pt])
      refine wpAnyIn_take (i := 5) (v := ?_) rfl rfl (by kernel_rfl) (by kernel_rfl) (by kernel_rfl) (fun _ _ _ h => h) ⟨Or.inl ⟨by rfl, ?_⟩, fun _ => rfl⟩ ?_
      rotate_left
      · intro w'; go_simp; (try with_reducible rfl)
      (try simp only [pt])
      refine wpAnyIn_take (i := 10) (v := ?_) rfl rfl (by kernel_rfl) (by kernel_rfl) (by kernel_rfl) (fun _ _ _ h => h) ⟨Or.inl ⟨by rfl, ?_⟩, fun _ => rfl⟩ ?_
      rotate_left
      · intro w'; go_simp; (try with_reducible rfl)
      (try simp only [pt])
      refine wpAnyIn_ready (rs := [6, 11]) (by kernel_rfl) (by simp) ?_
      refine AllReadyIn.cons rfl (fun K hK => ?_) ?_
      ·skip
       go_simp
       refine hK _ _ ?_
       clear hK K
       (try simp only [pt])
       refine wpAnyIn_take (i := 7) (v := ?_) rfl rfl (by kernel_rfl) (by kernel_rfl) (by kernel_rfl) (fun _ _ _ h => h) ⟨Or.inl ⟨by rfl, ?_⟩, fun _ => rfl⟩ ?_
       rotate_left
       · intro w'; go_simp; (try with_reducible rfl)
       (try simp only [pt])
       refine wpAnyIn_take (i := 8) (v := ?_) rfl rfl (by kernel_rfl) (by kernel_rfl) (by kernel_rfl) (fun _ _ _ h => h) ⟨Or.inl ⟨by rfl, ?_⟩, fun _ => rfl⟩ ?_
       rotate_left
       · intro w'; go_simp; (try with_reducible rfl)
       (try simp only [pt])
       refine wpAnyIn_ready (rs := [9, 11]) (by kernel_rfl) (by simp) ?_
       refine AllReadyIn.cons rfl (fun K hK => ?_) ?_
       ·skip
        go_simp
        refine hK _ _ ?_
        clear hK K
        (try simp only [pt])
        refine wpAnyIn_ready (rs := [11]) (by kernel_rfl) (by simp) ?_
        refine AllReadyIn.cons rfl (fun K hK => ?_) ?_
        ·skip
         go_simp
         refine hK _ _ ?_
         clear hK K
         (try simp only [pt])
         refine wpAnyIn_take (i := 12) (v := ?_) rfl rfl (by kernel_rfl) (by kernel_rfl) (by kernel_rfl) (fun _ _ _ h => h) ⟨Or.inl ⟨by rfl, ?_⟩, fun _ => rfl⟩ ?_
         rotate_left
         · intro w'; go_simp; (try with_reducible rfl)
         (try simp only [pt])
         refine wpAnyIn_take (i := 13) (v := ?_) rfl rfl (by kernel_rfl) (by kernel_rfl) (by kernel_rfl) (fun _ _ _ h => h) ⟨Or.inl ⟨by rfl, ?_⟩, fun _ => rfl⟩ ?_
         rotate_left
         · intro w'; go_simp; (try with_reducible rfl)
         (try simp only [pt])
         refine wpAnyIn_take (i := 14) (v := ?_) rfl rfl (by kernel_rfl) (by kernel_rfl) (by kernel_rfl) (fun _ _ _ h => h) ⟨Or.inl ⟨by rfl, ?_⟩, fun _ => rfl⟩ ?_
         rotate_left
         · intro w'; go_simp; (try with_reducible rfl)
         (try simp only [pt])
         refine wpAnyIn_take (i := 15) (v := ?_) rfl rfl (by kernel_rfl) (by kernel_rfl) (by kernel_rfl) (fun _ _ _ h => h) ⟨Or.inl ⟨by rfl, ?_⟩, fun _ => rfl⟩ ?_
         rotate_left
         · intro w'; go_simp; (try with_reducible rfl)
         (try simp only [pt])
         refine wpAnyIn_take (i := 16) (v := ?_) rfl rfl (by kernel_rfl) (by kernel_rfl) (by kernel_rfl) (fun _ _ _ h => h) ⟨Or.inl ⟨by rfl, ?_⟩, fun _ => rfl⟩ ?_
         rotate_left
         · intro w'; go_simp; (try with_reducible rfl)
         (try simp only [pt])
         refine wpAnyIn_ready (rs := [17]) (by kernel_rfl) (by simp) ?_
         refine AllReadyIn.cons rfl (fun K hK => ?_) ?_
         ·skip
          go_simp
          refine hR.mono ?_
          rintro e W3 (⟨rfl, hJ3⟩ | ⟨rfl, hJx3⟩)
          ·skip
           dsimp only
           refine hK _ _ ?_
           clear hK K
           (try simp only [pt])
           refine wpAnyIn_take (i := 18) (v := ?_) rfl rfl (by kernel_rfl) (by kernel_rfl) (by kernel_rfl) (fun _ _ _ h => h) ⟨Or.inl ⟨by rfl, ?_⟩, fun _ => rfl⟩ ?_
           rotate_left
           · intro w'; go_simp; (try with_reducible rfl)
           (try simp only [pt])
           refine wpAnyIn_take (i := 19) (v := ?_) rfl rfl (by kernel_rfl) (by kernel_rfl) (by kernel_rfl) (fun _ _ _ h => h) ⟨Or.inl ⟨by rfl, ?_⟩, fun _ => rfl⟩ ?_
           rotate_left
           · intro w'; go_simp; (try with_reducible rfl)
           (try simp only [pt])
           refine wpAnyIn_done (by kernel_rfl) ?_ _
           gi_wp2
           go_wp2_with fail
           rw [HW1.out]
           exact ⟨⟨j + 1, HJ1.out, HEQ.out, hJ3⟩, HMS.out⟩
          ·skip
           dsimp only
           refine hK _ _ ?_
           clear hK K
           (try simp only [pt])
           refine wpAnyIn_take (i := 18) (v := ?_) rfl rfl (by kernel_rfl) (by kernel_rfl) (by kernel_rfl) (fun _ _ _ h => h) ⟨Or.inl ⟨by rfl, ?_⟩, fun _ => rfl⟩ ?_
           rotate_left
           · intro w'; go_simp; (try with_reducible rfl)
           (try simp only [pt])
           refine wpAnyIn_take (i := 19) (v := ?_) rfl rfl (by kernel_rfl) (by kernel_rfl) (by kernel_rfl) (fun _ _ _ h => h) ⟨Or.inl ⟨by rfl, ?_⟩, fun _ => rfl⟩ ?_
           rotate_left
           · intro w'; go_simp; (try with_reducible rfl)
           (try simp only [pt])
           refine wpAnyIn_done (by kernel_rfl) ?_ _
           gi_wp2
           go_wp2_with fail
           refine bodyPost_ret (results_none rfl _ _ _) rfl ?_
           exact ⟨⟨_, rfl⟩, .inr ⟨_, hJx3⟩⟩
         exact AllReadyIn.nil
        exact AllReadyIn.nil
       refine AllReadyIn.cons rfl (fun K hK => ?_) ?_
       ·skip
        go_simp
        refine hK _ _ ?_
        clear hK K
        (try simp only [pt])
        refine wpAnyIn_ready (rs := [9]) (by kernel_rfl) (by simp) ?_
        refine AllReadyIn.cons rfl (fun K hK => ?_) ?_
        ·skip
         go_simp
         refine hK _ _ ?_
         clear hK K
         (try simp only [pt])
         refine wpAnyIn_take (i := 12) (v := ?_) rfl rfl (by kernel_rfl) (by kernel_rfl) (by kernel_rfl) (fun _ _ _ h => h) ⟨Or.inl ⟨by rfl, ?_⟩, fun _ => rfl⟩ ?_
         rotate_left
         · intro w'; go_simp; (try with_reducible rfl)
         (try simp only [pt])
         refine wpAnyIn_take (i := 13) (v := ?_) rfl rfl (by kernel_rfl) (by kernel_rfl) (by kernel_rfl) (fun _ _ _ h => h) ⟨Or.inl ⟨by rfl, ?_⟩, fun _ => rfl⟩ ?_
         rotate_left
         · intro w'; go_simp; (try with_reducible rfl)
         (try simp only [pt])
         refine wpAnyIn_take (i := 14) (v := ?_) rfl rfl (by kernel_rfl) (by kernel_rfl) (by kernel_rfl) (fun _ _ _ h => h) ⟨Or.inl ⟨by rfl, ?_⟩, fun _ => rfl⟩ ?_
         rotate_left
         · intro w'; go_simp; (try with_reducible rfl)
         (try simp only [pt])
         refine wpAnyIn_take (i := 15) (v := ?_) rfl rfl (by kernel_rfl) (by kernel_rfl) (by kernel_rfl) (fun _ _ _ h => h) ⟨Or.inl ⟨by rfl, ?_⟩, fun _ => rfl⟩ ?_
         rotate_left
         · intro w'; go_simp; (try with_reducible rfl)
         (try simp only [pt])
         refine wpAnyIn_take (i := 16) (v := ?_) rfl rfl (by kernel_rfl) (by kernel_rfl) (by kernel_rfl) (fun _ _ _ h => h) ⟨Or.inl ⟨by rfl, ?_⟩, fun _ => rfl⟩ ?_
         rotate_left
         · intro w'; go_simp; (try with_reducible rfl)
         (try simp only [pt])
         refine wpAnyIn_ready (rs := [17]) (by kernel_rfl) (by simp) ?_
         refine AllReadyIn.cons rfl (fun K hK => ?_) ?_
         ·skip
          go_simp
          refine hR.mono ?_
          rintro e W3 (⟨rfl, hJ3⟩ | ⟨rfl, hJx3⟩)
          ·skip
           dsimp only
           refine hK _ _ ?_
           clear hK K
           (try simp only [pt])
           refine wpAnyIn_take (i := 18) (v := ?_) rfl rfl (by kernel_rfl) (by kernel_rfl) (by kernel_rfl) (fun _ _ _ h => h) ⟨Or.inl ⟨by rfl, ?_⟩, fun _ => rfl⟩ ?_
           rotate_left
           · intro w'; go_simp; (try with_reducible rfl)
           (try simp only [pt])
           refine wpAnyIn_take (i := 19) (v := ?_) rfl rfl (by kernel_rfl) (by kernel_rfl) (by kernel_rfl) (fun _ _ _ h => h) ⟨Or.inl ⟨by rfl, ?_⟩, fun _ => rfl⟩ ?_
           rotate_left
           · intro w'; go_simp; (try with_reducible rfl)
           (try simp only [pt])
           refine wpAnyIn_done (by kernel_rfl) ?_ _
           gi_wp2
           go_wp2_with fail
           rw [HW1.out]
           exact ⟨⟨j + 1, HJ1.out, HEQ.out, hJ3⟩, HMS.out⟩
          ·skip
           dsimp only
           refine hK _ _ ?_
           clear hK K
           (try simp only [pt])
           refine wpAnyIn_take (i := 18) (v := ?_) rfl rfl (by kernel_rfl) (by kernel_rfl) (by kernel_rfl) (fun _ _ _ h => h) ⟨Or.inl ⟨by rfl, ?_⟩, fun _ => rfl⟩ ?_
           rotate_left
           · intro w'; go_simp; (try with_reducible rfl)
           (try simp only [pt])
           refine wpAnyIn_take (i := 19) (v := ?_) rfl rfl (by kernel_rfl) (by kernel_rfl) (by kernel_rfl) (fun _ _ _ h => h) ⟨Or.inl ⟨by rfl, ?_⟩, fun _ => rfl⟩ ?_
           rotate_left
           · intro w'; go_simp; (try with_reducible rfl)
           (try simp only [pt])
           refine wpAnyIn_done (by kernel_rfl) ?_ _
           gi_wp2
           go_wp2_with fail
           refine bodyPost_ret (results_none rfl _ _ _) rfl ?_
           exact ⟨⟨_, rfl⟩, .inr ⟨_, hJx3⟩⟩
         exact AllReadyIn.nil
        exact AllReadyIn.nil
       exact AllReadyIn.nil
      refine AllReadyIn.cons rfl (fun K hK => ?_) ?_
      ·skip
       go_simp
       refine hK _ _ ?_
       clear hK K
       (try simp only [pt])
       refine wpAnyIn_ready (rs := [6]) (by kernel_rfl) (by simp) ?_
       refine AllReadyIn.cons rfl (fun K hK => ?_) ?_
       ·skip
        go_simp
        refine hK _ _ ?_
        clear hK K
        (try simp only [pt])
        refine wpAnyIn_take (i := 7) (v := ?_) rfl rfl (by kernel_rfl) (by kernel_rfl) (by kernel_rfl) (fun _ _ _ h => h) ⟨Or.inl ⟨by rfl, ?_⟩, fun _ => rfl⟩ ?_
        rotate_left
        · intro w'; go_simp; (try with_reducible rfl)
        (try simp only [pt])
        refine wpAnyIn_take (i := 8) (v := ?_) rfl rfl (by kernel_rfl) (by kernel_rfl) (by kernel_rfl) (fun _ _ _ h => h) ⟨Or.inl ⟨by rfl, ?_⟩, fun _ => rfl⟩ ?_
        rotate_left
        · intro w'; go_simp; (try with_reducible rfl)
        (try simp only [pt])
        refine wpAnyIn_ready (rs := [9]) (by kernel_rfl) (by simp) ?_
        refine AllReadyIn.cons rfl (fun K hK => ?_) ?_
        ·skip
         go_simp
         refine hK _ _ ?_
         clear hK K
         (try simp only [pt])
         refine wpAnyIn_take (i := 12) (v := ?_) rfl rfl (by kernel_rfl) (by kernel_rfl) (by kernel_rfl) (fun _ _ _ h => h) ⟨Or.inl ⟨by rfl, ?_⟩, fun _ => rfl⟩ ?_
         rotate_left
         · intro w'; go_simp; (try with_reducible rfl)
         (try simp only [pt])
         refine wpAnyIn_take (i := 13) (v := ?_) rfl rfl (by kernel_rfl) (by kernel_rfl) (by kernel_rfl) (fun _ _ _ h => h) ⟨Or.inl ⟨by rfl, ?_⟩, fun _ => rfl⟩ ?_
         rotate_left
         · intro w'; go_simp; (try with_reducible rfl)
         (try simp only [pt])
         refine wpAnyIn_take (i := 14) (v := ?_) rfl rfl (by kernel_rfl) (by kernel_rfl) (by kernel_rfl) (fun _ _ _ h => h) ⟨Or.inl ⟨by rfl, ?_⟩, fun _ => rfl⟩ ?_
         rotate_left
         · intro w'; go_simp; (try with_reducible rfl)
         (try simp only [pt])
         refine wpAnyIn_take (i := 15) (v := ?_) rfl rfl (by kernel_rfl) (by kernel_rfl) (by kernel_rfl) (fun _ _ _ h => h) ⟨Or.inl ⟨by rfl, ?_⟩, fun _ => rfl⟩ ?_
         rotate_left
         · intro w'; go_simp; (try with_reducible rfl)
         (try simp only [pt])
         refine wpAnyIn_take (i := 16) (v := ?_) rfl rfl (by kernel_rfl) (by kernel_rfl) (by kernel_rfl) (fun _ _ _ h => h) ⟨Or.inl ⟨by rfl, ?_⟩, fun _ => rfl⟩ ?_
         rotate_left
         · intro w'; go_simp; (try with_reducible rfl)
         (try simp only [pt])
         refine wpAnyIn_ready (rs := [17]) (by kernel_rfl) (by simp) ?_
         refine AllReadyIn.cons rfl (fun K hK => ?_) ?_
         ·skip
          go_simp
          refine hR.mono ?_
          rintro e W3 (⟨rfl, hJ3⟩ | ⟨rfl, hJx3⟩)
          ·skip
           dsimp only
           refine hK _ _ ?_
           clear hK K
           (try simp only [pt])
           refine wpAnyIn_take (i := 18) (v := ?_) rfl rfl (by kernel_rfl) (by kernel_rfl) (by kernel_rfl) (fun _ _ _ h => h) ⟨Or.inl ⟨by rfl, ?_⟩, fun _ => rfl⟩ ?_
           rotate_left
           · intro w'; go_simp; (try with_reducible rfl)
           (try simp only [pt])
           refine wpAnyIn_take (i := 19) (v := ?_) rfl rfl (by kernel_rfl) (by kernel_rfl) (by kernel_rfl) (fun _ _ _ h => h) ⟨Or.inl ⟨by rfl, ?_⟩, fun _ => rfl⟩ ?_
           rotate_left
           · intro w'; go_simp; (try with_reducible rfl)
           (try simp only [pt])
           refine wpAnyIn_done (by kernel_rfl) ?_ _
           gi_wp2
           go_wp2_with fail
           rw [HW1.out]
           exact ⟨⟨j + 1, HJ1.out, HEQ.out, hJ3⟩, HMS.out⟩
          ·skip
           dsimp only
           refine hK _ _ ?_
           clear hK K
           (try simp only [pt])
           refine wpAnyIn_take (i := 18) (v := ?_) rfl rfl (by kernel_rfl) (by kernel_rfl) (by kernel_rfl) (fun _ _ _ h => h) ⟨Or.inl ⟨by rfl, ?_⟩, fun _ => rfl⟩ ?_
           rotate_left
           · intro w'; go_simp; (try with_reducible rfl)
           (try simp only [pt])
           refine wpAnyIn_take (i := 19) (v := ?_) rfl rfl (by kernel_rfl) (by kernel_rfl) (by kernel_rfl) (fun _ _ _ h => h) ⟨Or.inl ⟨by rfl, ?_⟩, fun _ => rfl⟩ ?_
           rotate_left
           · intro w'; go_simp; (try with_reducible rfl)
           (try simp only [pt])
           refine wpAnyIn_done (by kernel_rfl) ?_ _
           gi_wp2
           go_wp2_with fail
           refine bodyPost_ret (results_none rfl _ _ _) rfl ?_
           exact ⟨⟨_, rfl⟩, .inr ⟨_, hJx3⟩⟩
         exact AllReadyIn.nil
        exact AllReadyIn.nil
       exact AllReadyIn.nil
      exact AllReadyIn.nil
     exact AllReadyIn.nil
    ·skip
     obtain rfl : j = drN qs k := by omega
     have hst := doneN_stop (o := (qAt qs k).2) (xs := (qAt qs k).1)
     have hxl : xl.length = (qAt qs k).1.length - drN qs k := by rw [← HL1.out, List.length_drop]
     have hxn : xl.length = xn := HSM.out.len
     have hper : 0 < xn → xo < perAt xl 0 := fun h0 => by
       have h1 : drN qs k < (qAt qs k).1.length := by omega
       rw [← HL2.out, ← HL1.out]
       unfold perAt at hst ⊢
       rw [List.getElem?_drop, Nat.add_zero]
       exact Int.not_le.1 (fun h2 => hst ⟨h1, h2⟩)
     have HJD := hid (HJB.out _ _ _ HJ.out ((Below.refl _ _).drew))
     obtain ⟨y0, y1, yf⟩ := PZ.out.cells2
     by_cases hx0 : xn = 0
     ·skip
      subst hx0
      clear hst hxl hxn hper HSM hjn
      have hx1 : (((0 : Nat) : Int) == 0) = true := rfl
      go_upto_region 3 with fail
      refine (wpIn_wide (n := M)).1 ?_
      refine wpIn_region_any (by kernel_rfl) ?_
      change wpAnyIn _ _ _ _ _ _ _ _ _ (World.drew _)
      refine wpAnyIn_take (i := 0) (v := ?_) rfl rfl (by kernel_rfl) (by kernel_rfl) (by kernel_rfl) (fun _ _ _ h => h) ⟨Or.inl ⟨by rfl, ?_⟩, fun _ => rfl⟩ ?_
      rotate_left
      · intro w'; go_simp; (try with_reducible rfl)
      (try simp only [pt])
      refine wpAnyIn_ready (rs := [1]) (by kernel_rfl) (by simp) ?_
      refine AllReadyIn.cons rfl (fun K hK => ?_) ?_
      ·skip
       go_simp
       refine hK _ _ ?_
       clear hK K
       (try simp only [pt])
       refine wpAnyIn_take (i := 2) (v := ?_) rfl rfl (by kernel_rfl) (by kernel_rfl) (by kernel_rfl) (fun _ _ _ h => h) ⟨Or.inl ⟨by rfl, ?_⟩, fun _ => rfl⟩ ?_
       rotate_left
       · intro w'; go_simp; (try with_reducible rfl)
       (try simp only [pt])
       refine wpAnyIn_take (i := 3) (v := ?_) rfl rfl (by kernel_rfl) (by kernel_rfl) (by kernel_rfl) (fun _ _ _ h => h) ⟨Or.inl ⟨by rfl, ?_⟩, fun _ => rfl⟩ ?_
       rotate_left
       · intro w'; go_simp; (try with_reducible rfl)
       (try simp only [pt])
       refine wpAnyIn_take (i := 4) (v := ?_) rfl rfl (by kernel_rfl) (by kernel_rfl) (by kernel_rfl) (fun _ _ _ h => h) ⟨Or.inl ⟨by rfl, ?_⟩, fun _ => rfl⟩ ?_
       rotate_left
       · intro w'; go_simp; (try with_reducible rfl)
       (try simp only [pt])
       refine wpAnyIn_take (i := 5) (v := undef) rfl rfl (by kernel_rfl) (by kernel_rfl) (by kernel_rfl) (fun _ _ _ h => h) ⟨Or.inr ⟨by kernel_rfl, rfl⟩, fun _ => by kernel_rfl⟩ ?_
       (try simp only [pt])
       refine wpAnyIn_take (i := 6) (v := undef) rfl rfl (by kernel_rfl) (by kernel_rfl) (by kernel_rfl) (fun _ _ _ h => h) ⟨Or.inr ⟨by kernel_rfl, rfl⟩, fun _ => by kernel_rfl⟩ ?_
       (try simp only [pt])
       refine wpAnyIn_take (i := 7) (v := undef) rfl rfl (by kernel_rfl) (by kernel_rfl) (by kernel_rfl) (fun _ _ _ h => h) ⟨Or.inr ⟨by kernel_rfl, rfl⟩, fun _ => by kernel_rfl⟩ ?_
       (try simp only [pt])
       refine wpAnyIn_take (i := 8) (v := undef) rfl rfl (by kernel_rfl) (by kernel_rfl) (by kernel_rfl) (fun _ _ _ h => h) ⟨Or.inr ⟨by kernel_rfl, rfl⟩, fun _ => by kernel_rfl⟩ ?_
       (try simp only [pt])
       refine wpAnyIn_take (i := 9) (v := undef) rfl rfl (by kernel_rfl) (by kernel_rfl) (by kernel_rfl) (fun _ _ _ h => h) ⟨Or.inr ⟨by kernel_rfl, rfl⟩, fun _ => by kernel_rfl⟩ ?_
       (try simp only [pt])
       refine wpAnyIn_take (i := 10) (v := undef) rfl rfl (by kernel_rfl) (by kernel_rfl) (by kernel_rfl) (fun _ _ _ h => h) ⟨Or.inr ⟨by kernel_rfl, rfl⟩, fun _ => by kernel_rfl⟩ ?_
       (try simp only [pt])
       refine wpAnyIn_take (i := 11) (v := undef) rfl rfl (by kernel_rfl) (by kernel_rfl) (by kernel_rfl) (fun _ _ _ h => h) ⟨Or.inr ⟨by kernel_rfl, rfl⟩, fun _ => by kernel_rfl⟩ ?_
       (try simp only [pt])
       refine wpAnyIn_take (i := 12) (v := undef) rfl rfl (by kernel_rfl) (by kernel_rfl) (by kernel_rfl) (fun _ _ _ h => h) ⟨Or.inr ⟨by kernel_rfl, rfl⟩, fun _ => by kernel_rfl⟩ ?_
       (try simp only [pt])
       refine wpAnyIn_take (i := 13) (v := ?_) rfl rfl (by kernel_rfl) (by kernel_rfl) (by kernel_rfl) (fun _ _ _ h => h) ⟨Or.inl ⟨by rfl, ?_⟩, fun _ => rfl⟩ ?_
       rotate_left
       · intro w'; go_simp; (try with_reducible rfl)
       (try simp only [pt])
       refine wpAnyIn_take (i := 14) (v := ?_) rfl rfl (by kernel_rfl) (by kernel_rfl) (by kernel_rfl) (fun _ _ _ h => h) ⟨Or.inl ⟨by rfl, ?_⟩, fun _ => rfl⟩ ?_
       rotate_left
       · intro w'; go_simp; (try with_reducible rfl)
       (try simp only [pt])
       refine wpAnyIn_take (i := 15) (v := undef) rfl rfl (by kernel_rfl) (by kernel_rfl) (by kernel_rfl) (fun _ _ _ h => h) ⟨Or.inr ⟨by kernel_rfl, rfl⟩, fun _ => by kernel_rfl⟩ ?_
       (try simp only [pt])
       refine wpAnyIn_take (i := 16) (v := undef) rfl rfl (by kernel_rfl) (by kernel_rfl) (by kernel_rfl) (fun _ _ _ h => h) ⟨Or.inr ⟨by kernel_rfl, rfl⟩, fun _ => by kernel_rfl⟩ ?_
       (try simp only [pt])
       refine wpAnyIn_take (i := 17) (v := undef) rfl rfl (by kernel_rfl) (by kernel_rfl) (by kernel_rfl) (fun _ _ _ h => h) ⟨Or.inr ⟨by kernel_rfl, rfl⟩, fun _ => by kernel_rfl⟩ ?_
       (try simp only [pt])
       refine wpAnyIn_take (i := 18) (v := undef) rfl rfl (by kernel_rfl) (by kernel_rfl) (by kernel_rfl) (fun _ _ _ h => h) ⟨Or.inr ⟨by kernel_rfl, rfl⟩, fun _ => by kernel_rfl⟩ ?_
       (try simp only [pt])
       refine wpAnyIn_take (i := 19) (v := ?_) rfl rfl (by kernel_rfl) (by kernel_rfl) (by kernel_rfl) (fun _ _ _ h => h) ⟨Or.inl ⟨by rfl, ?_⟩, fun _ => rfl⟩ ?_
       rotate_left
       · intro w'; go_simp; (try with_reducible rfl)
       (try simp only [pt])
       refine wpAnyIn_done (by kernel_rfl) ?_ _
       gi_wp2
       go_wp2_with fail
       refine bodyPost_ret (results_none rfl _ _ _) rfl ?_
       exact ⟨⟨_, rfl⟩, .inl HJD.out⟩
      exact AllReadyIn.nil
     ·skip
      have hp := hper (by omega)
      obtain ⟨b, off, rfl, _, _, hc⟩ := HSM.out.row (by omega)
      have f0 := hc 0 (by omega) 0 (by omega)
      obtain ⟨v, hv⟩ : ∃ v, v = perAt xl 0 := ⟨_, rfl⟩
      rw [← hv] at hp
      replace f0 : Ws12.cell? ⟨b, off, none⟩ = some (.int .u64 v) := by rw [hv]; exact f0
      have hx1 : ((xn : Int) == 0) = false := by simp; omega
      have hxi : (0 : Int) < (xn : Int) := by omega
      have hxn2 : 0 < xn := by omega
      clear hst hxl hxn hper hv hc hjn
      go_upto_region 3 with fail
      refine (wpIn_wide (n := M)).1 ?_
      refine wpIn_region_any (by kernel_rfl) ?_
      change wpAnyIn _ _ _ _ _ _ _ _ _ (World.drew _)
      refine wpAnyIn_take (i := 0) (v := ?_) rfl rfl (by kernel_rfl) (by kernel_rfl) (by kernel_rfl) (fun _ _ _ h => h) ⟨Or.inl ⟨by rfl, ?_⟩, fun _ => rfl⟩ ?_
      rotate_left
      · intro w'; go_simp; (try with_reducible rfl)
      (try simp only [pt])
      refine wpAnyIn_ready (rs := [1]) (by kernel_rfl) (by simp) ?_
      refine AllReadyIn.cons rfl (fun K hK => ?_) ?_
      ·skip
       go_simp
       refine hK _ _ ?_
       clear hK K
       (try simp only [pt])
       refine wpAnyIn_take (i := 2) (v := ?_) rfl rfl (by kernel_rfl) (by kernel_rfl) (by kernel_rfl) (fun _ _ _ h => h) ⟨Or.inl ⟨by rfl, ?_⟩, fun _ => rfl⟩ ?_
       rotate_left
       · intro w'; go_simp; (try with_reducible rfl)
       (try simp only [pt])
       refine wpAnyIn_take (i := 3) (v := ?_) rfl rfl (by kernel_rfl) (by kernel_rfl) (by kernel_rfl) (fun _ _ _ h => h) ⟨Or.inl ⟨by rfl, ?_⟩, fun _ => rfl⟩ ?_
       rotate_left
       · intro w'; go_simp; (try with_reducible rfl)
       (try simp only [pt])
       refine wpAnyIn_take (i := 4) (v := ?_) rfl rfl (by kernel_rfl) (by kernel_rfl) (by kernel_rfl) (fun _ _ _ h => h) ⟨Or.inl ⟨by rfl, ?_⟩, fun _ => rfl⟩ ?_
       rotate_left
       · intro w'; go_simp; (try with_reducible rfl)
       (try simp only [pt])
       refine wpAnyIn_take (i := 5) (v := ?_) rfl rfl (by kernel_rfl) (by kernel_rfl) (by kernel_rfl) (fun _ _ _ h => h) ⟨Or.inl ⟨by rfl, ?_⟩, fun _ => rfl⟩ ?_
       rotate_left
       · intro w'; go_simp; (try with_reducible rfl)
       (try simp only [pt])
       refine wpAnyIn_take (i := 10) (v := ?_) rfl rfl (by kernel_rfl) (by kernel_rfl) (by kernel_rfl) (fun _ _ _ h => h) ⟨Or.inl ⟨by rfl, ?_⟩, fun _ => rfl⟩ ?_
       rotate_left
       · intro w'; go_simp; (try with_reducible rfl)
       (try simp only [pt])
       refine wpAnyIn_ready (rs := [6, 11]) (by kernel_rfl) (by simp) ?_
       refine AllReadyIn.cons rfl (fun K hK => ?_) ?_
       ·skip
        go_simp
        refine hK _ _ ?_
        clear hK K
        (try simp only [pt])
        refine wpAnyIn_take (i := 7) (v := ?_) rfl rfl (by kernel_rfl) (by kernel_rfl) (by kernel_rfl) (fun _ _ _ h => h) ⟨Or.inl ⟨by rfl, ?_⟩, fun _ => rfl⟩ ?_
        rotate_left
        · intro w'; go_simp; (try with_reducible rfl)
        (try simp only [pt])
        refine wpAnyIn_take (i := 8) (v := ?_) rfl rfl (by kernel_rfl) (by kernel_rfl) (by kernel_rfl) (fun _ _ _ h => h) ⟨Or.inl ⟨by rfl, ?_⟩, fun _ => rfl⟩ ?_
        rotate_left
        · intro w'; go_simp; (try with_reducible rfl)
        (try simp only [pt])
        refine wpAnyIn_ready (rs := [9, 11]) (by kernel_rfl) (by simp) ?_
        refine AllReadyIn.cons rfl (fun K hK => ?_) ?_
        ·skip
         go_simp
         refine hK _ _ ?_
         clear hK K
         (try simp only [pt])
         refine wpAnyIn_ready (rs := [11]) (by kernel_rfl) (by simp) ?_
         refine AllReadyIn.cons rfl (fun K hK => ?_) ?_
         ·skip
          go_simp
          refine hK _ _ ?_
          clear hK K
          (try simp only [pt])
          refine wpAnyIn_take (i := 12) (v := ?_) rfl rfl (by kernel_rfl) (by kernel_rfl) (by kernel_rfl) (fun _ _ _ h => h) ⟨Or.inl ⟨by rfl, ?_⟩, fun _ => rfl⟩ ?_
          rotate_left
          · intro w'; go_simp; (try with_reducible rfl)
          (try simp only [pt])
          refine wpAnyIn_take (i := 13) (v := ?_) rfl rfl (by kernel_rfl) (by kernel_rfl) (by kernel_rfl) (fun _ _ _ h => h) ⟨Or.inl ⟨by rfl, ?_⟩, fun _ => rfl⟩ ?_
          rotate_left
          · intro w'; go_simp; (try with_reducible rfl)
          (try simp only [pt])
          refine wpAnyIn_take (i := 14) (v := ?_) rfl rfl (by kernel_rfl) (by kernel_rfl) (by kernel_rfl) (fun _ _ _ h => h) ⟨Or.inl ⟨by rfl, ?_⟩, fun _ => rfl⟩ ?_
          rotate_left
          · intro w'; go_simp; (try with_reducible rfl)
          (try simp only [pt])
          refine wpAnyIn_take (i := 15) (v := undef) rfl rfl (by kernel_rfl) (by kernel_rfl) (by kernel_rfl) (fun _ _ _ h => h) ⟨Or.inr ⟨by kernel_rfl, rfl⟩, fun _ => by kernel_rfl⟩ ?_
          (try simp only [pt])
          refine wpAnyIn_take (i := 16) (v := undef) rfl rfl (by kernel_rfl) (by kernel_rfl) (by kernel_rfl) (fun _ _ _ h => h) ⟨Or.inr ⟨by kernel_rfl, rfl⟩, fun _ => by kernel_rfl⟩ ?_
          (try simp only [pt])
          refine wpAnyIn_take (i := 17) (v := undef) rfl rfl (by kernel_rfl) (by kernel_rfl) (by kernel_rfl) (fun _ _ _ h => h) ⟨Or.inr ⟨by kernel_rfl, rfl⟩, fun _ => by kernel_rfl⟩ ?_
          (try simp only [pt])
          refine wpAnyIn_take (i := 18) (v := undef) rfl rfl (by kernel_rfl) (by kernel_rfl) (by kernel_rfl) (fun _ _ _ h => h) ⟨Or.inr ⟨by kernel_rfl, rfl⟩, fun _ => by kernel_rfl⟩ ?_
          (try simp only [pt])
          refine wpAnyIn_take (i := 19) (v := ?_) rfl rfl (by kernel_rfl) (by kernel_rfl) (by kernel_rfl) (fun _ _ _ h => h) ⟨Or.inl ⟨by rfl, ?_⟩, fun _ => rfl⟩ ?_
          rotate_left
          · intro w'; go_simp; (try with_reducible rfl)
          (try simp only [pt])
          refine wpAnyIn_done (by kernel_rfl) ?_ _
          gi_wp2
          go_wp2_with fail
          refine bodyPost_ret (results_none rfl _ _ _) rfl ?_
          exact ⟨⟨_, rfl⟩, .inl HJD.out⟩
         exact AllReadyIn.nil
        refine AllReadyIn.cons rfl (fun K hK => ?_) ?_
        ·skip
         go_simp
         refine hK _ _ ?_
         clear hK K
         (try simp only [pt])
         refine wpAnyIn_ready (rs := [9]) (by kernel_rfl) (by simp) ?_
         refine AllReadyIn.cons rfl (fun K hK => ?_) ?_
         ·skip
          go_simp
          refine hK _ _ ?_
          clear hK K
          (try simp only [pt])
          refine wpAnyIn_take (i := 12) (v := ?_) rfl rfl (by kernel_rfl) (by kernel_rfl) (by kernel_rfl) (fun _ _ _ h => h) ⟨Or.inl ⟨by rfl, ?_⟩, fun _ => rfl⟩ ?_
          rotate_left
          · intro w'; go_simp; (try with_reducible rfl)
          (try simp only [pt])
          refine wpAnyIn_take (i := 13) (v := ?_) rfl rfl (by kernel_rfl) (by kernel_rfl) (by kernel_rfl) (fun _ _ _ h => h) ⟨Or.inl ⟨by rfl, ?_⟩, fun _ => rfl⟩ ?_
          rotate_left
          · intro w'; go_simp; (try with_reducible rfl)
          (try simp only [pt])
          refine wpAnyIn_take (i := 14) (v := ?_) rfl rfl (by kernel_rfl) (by kernel_rfl) (by kernel_rfl) (fun _ _ _ h => h) ⟨Or.inl ⟨by rfl, ?_⟩, fun _ => rfl⟩ ?_
          rotate_left
          · intro w'; go_simp; (try with_reducible rfl)
          (try simp only [pt])
          refine wpAnyIn_take (i := 15) (v := undef) rfl rfl (by kernel_rfl) (by kernel_rfl) (by kernel_rfl) (fun _ _ _ h => h) ⟨Or.inr ⟨by kernel_rfl, rfl⟩, fun _ => by kernel_rfl⟩ ?_
          (try simp only [pt])
          refine wpAnyIn_take (i := 16) (v := undef) rfl rfl (by kernel_rfl) (by kernel_rfl) (by kernel_rfl) (fun _ _ _ h => h) ⟨Or.inr ⟨by kernel_rfl, rfl⟩, fun _ => by kernel_rfl⟩ ?_
          (try simp only [pt])
          refine wpAnyIn_take (i := 17) (v := undef) rfl rfl (by kernel_rfl) (by kernel_rfl) (by kernel_rfl) (fun _ _ _ h => h) ⟨Or.inr ⟨by kernel_rfl, rfl⟩, fun _ => by kernel_rfl⟩ ?_
          (try simp only [pt])
          refine wpAnyIn_take (i := 18) (v := undef) rfl rfl (by kernel_rfl) (by kernel_rfl) (by kernel_rfl) (fun _ _ _ h => h) ⟨Or.inr ⟨by kernel_rfl, rfl⟩, fun _ => by kernel_rfl⟩ ?_
          (try simp only [pt])
          refine wpAnyIn_take (i := 19) (v := ?_) rfl rfl (by kernel_rfl) (by kernel_rfl) (by kernel_rfl) (fun _ _ _ h => h) ⟨Or.inl ⟨by rfl, ?_⟩, fun _ => rfl⟩ ?_
          rotate_left
          · intro w'; go_simp; (try with_reducible rfl)
          (try simp only [pt])
          refine wpAnyIn_done (by kernel_rfl) ?_ _
          gi_wp2
          go_wp2_with fail
          refine bodyPost_ret (results_none rfl _ _ _) rfl ?_
          exact ⟨⟨_, rfl⟩, .inl HJD.out⟩
         exact AllReadyIn.nil
        exact AllReadyIn.nil
       refine AllReadyIn.cons rfl (fun K hK => ?_) ?_
       ·skip
        go_simp
        refine hK _ _ ?_
        clear hK K
        (try simp only [pt])
        refine wpAnyIn_ready (rs := [6]) (by kernel_rfl) (by simp) ?_
        refine AllReadyIn.cons rfl (fun K hK => ?_) ?_
        ·skip
         go_simp
         refine hK _ _ ?_
         clear hK K
         (try simp only [pt])
         refine wpAnyIn_take (i := 7) (v := ?_) rfl rfl (by kernel_rfl) (by kernel_rfl) (by kernel_rfl) (fun _ _ _ h => h) ⟨Or.inl ⟨by rfl, ?_⟩, fun _ => rfl⟩ ?_
         rotate_left
         · intro w'; go_simp; (try with_reducible rfl)
         (try simp only [pt])
         refine wpAnyIn_take (i := 8) (v := ?_) rfl rfl (by kernel_rfl) (by kernel_rfl) (by kernel_rfl) (fun _ _ _ h => h) ⟨Or.inl ⟨by rfl, ?_⟩, fun _ => rfl⟩ ?_
         rotate_left
         · intro w'; go_simp; (try with_reducible rfl)
         (try simp only [pt])
         refine wpAnyIn_ready (rs := [9]) (by kernel_rfl) (by simp) ?_
         refine AllReadyIn.cons rfl (fun K hK => ?_) ?_
         ·skip
          go_simp
          refine hK _ _ ?_
          clear hK K
          (try simp only [pt])
          refine wpAnyIn_take (i := 12) (v := ?_) rfl rfl (by kernel_rfl) (by kernel_rfl) (by kernel_rfl) (fun _ _ _ h => h) ⟨Or.inl ⟨by rfl, ?_⟩, fun _ => rfl⟩ ?_
          rotate_left
          · intro w'; go_simp; (try with_reducible rfl)
          (try simp only [pt])
          refine wpAnyIn_take (i := 13) (v := ?_) rfl rfl (by kernel_rfl) (by kernel_rfl) (by kernel_rfl) (fun _ _ _ h => h) ⟨Or.inl ⟨by rfl, ?_⟩, fun _ => rfl⟩ ?_
          rotate_left
          · intro w'; go_simp; (try with_reducible rfl)
          (try simp only [pt])
          refine wpAnyIn_take (i := 14) (v := ?_) rfl rfl (by kernel_rfl) (by kernel_rfl) (by kernel_rfl) (fun _ _ _ h => h) ⟨Or.inl ⟨by rfl, ?_⟩, fun _ => rfl⟩ ?_
          rotate_left
          · intro w'; go_simp; (try with_reducible rfl)
          (try simp only [pt])
          refine wpAnyIn_take (i := 15) (v := undef) rfl rfl (by kernel_rfl) (by kernel_rfl) (by kernel_rfl) (fun _ _ _ h => h) ⟨Or.inr ⟨by kernel_rfl, rfl⟩, fun _ => by kernel_rfl⟩ ?_
          (try simp only [pt])
          refine wpAnyIn_take (i := 16) (v := undef) rfl rfl (by kernel_rfl) (by kernel_rfl) (by kernel_rfl) (fun _ _ _ h => h) ⟨Or.inr ⟨by kernel_rfl, rfl⟩, fun _ => by kernel_rfl⟩ ?_
          (try simp only [pt])
          refine wpAnyIn_take (i := 17) (v := undef) rfl rfl (by kernel_rfl) (by kernel_rfl) (by kernel_rfl) (fun _ _ _ h => h) ⟨Or.inr ⟨by kernel_rfl, rfl⟩, fun _ => by kernel_rfl⟩ ?_
          (try simp only [pt])
          refine wpAnyIn_take (i := 18) (v := undef) rfl rfl (by kernel_rfl) (by kernel_rfl) (by kernel_rfl) (fun _ _ _ h => h) ⟨Or.inr ⟨by kernel_rfl, rfl⟩, fun _ => by kernel_rfl⟩ ?_
          (try simp only [pt])
          refine wpAnyIn_take (i := 19) (v := ?_) rfl rfl (by kernel_rfl) (by kernel_rfl) (by kernel_rfl) (fun _ _ _ h => h) ⟨Or.inl ⟨by rfl, ?_⟩, fun _ => rfl⟩ ?_
          rotate_left
          · intro w'; go_simp; (try with_reducible rfl)
          (try simp only [pt])
          refine wpAnyIn_done (by kernel_rfl) ?_ _
          gi_wp2
          go_wp2_with fail
          refine bodyPost_ret (results_none rfl _ _ _) rfl ?_
          exact ⟨⟨_, rfl⟩, .inl HJD.out⟩
         exact AllReadyIn.nil
        exact AllReadyIn.nil
       exact AllReadyIn.nil
      exact AllReadyIn.nil
end Go.Proofs.YtfipdoofgbjbjaaGreat

/- package rcu: Settle. No condition but sizes, and that numbers are of their kinds. -/
namespace Go.Proofs.YtfipdoofgbjbjaaGreat
open Go.RowKit Go.Shelf
attribute [local go_sem] Oper.semAt_some
theorem SvOk.run {s : St} {t : Sv} (h : SvOk s t) (j : Nat) : RcGood s (gPick t.g t.k true) (drQ (pkQ t) t.k j) := good_drain (good_pick h) _ _ (by rw [pk_len]; exact h.2.2)
theorem s_is {w w' : World} {l gc : Nat} {s : St} {t : Sv} (h : SA w l gc s t) (k' : Nat) (hg : w.grownBy w' (some gc)) (hb : ∀ (s : St) (g : Gr) (a : Ra) (is what : Int) (R : Option Addr) (nr kr : Nat), Blk w gc 78 (ccells s g a is what R nr kr) → Blk w' gc 78 (ccells s g a (k' : Int) what R nr kr)) : SA w' l gc s ⟨t.g, t.qs, t.ran, k'⟩ := by
  obtain ⟨a, es, what, R, kr, h1, h2⟩ := h
  exact ⟨a, es, what, R, kr, h1, (h2.cx.boxed h2.box hg).ca (hb _ _ _ _ _ _ _ _ h2.box)⟩
theorem tJ_zero (g : Gr) (qs : Qs) (ran : List Int) (k : Nat) (hk : k < qs.length) : tJ g qs ran k 0 = ⟨g, qs, ran, k⟩ := by
  have h1 : drQ qs k 0 = qs := by
    unfold drQ qAt
    rw [List.drop_zero, List.getElem?_eq_getElem hk]
    exact List.set_getElem_self hk
  have h2 : drR qs k 0 = [] := by unfold drR; rw [List.take_zero]; rfl
  unfold tJ
  rw [h1, h2, List.append_nil]
theorem tJ_succ (g : Gr) (qs : Qs) (ran : List Int) (k j : Nat) (hk : k < qs.length) : (⟨g, drQ (drQ qs k j) k 1, (ran ++ drR qs k j) ++ drR (drQ qs k j) k 1, k⟩ : Sv) = tJ g qs ran k (j + 1) := by
  unfold tJ
  rw [drQ_drQ qs k j 1 hk, List.append_assoc, drR_drQ qs k j 1 hk]
/-- how many there are in all -/
theorem ran_count {s : St} {t : Sv} (h : SvOk s t) (j : Nat) : (t.ran ++ drR (pkQ t) t.k j).length + wN (drQ (pkQ t) t.k j) = t.ran.length + wN t.qs := by
  have h1 := (wAll_drain (pkQ t) t.k j (by rw [pk_len]; exact h.2.2)).length_eq
  rw [List.length_append, wAll_len, wAll_len] at h1
  have h2 := congrArg List.length (wAll_overs t.g.dn (gPick t.g t.k true).dn t.qs)
  rw [wAll_len, wAll_len] at h2
  have h3 : wN (pkQ t) = wN t.qs := h2
  rw [List.length_append]; omega
/-- what holds at the label -/
def LbJ (w : World) (l gc gb : Nat) (s : St) (t0 : Sv) (t : Sv) (bs : List Nat) (W : World) : Prop :=
  SvOk s t ∧ SA W l gc s t ∧ setF s t = setF s t0 ∧ Blk W gb 72 #[ptr gc] ∧ Marks l W bs ∧ GrownP (fun i => l ≤ i) w W ∧ t.ran.length + wN t.qs ≤ 8000
def StJ (w : World) (l gc gb : Nat) (s : St) (t0 : Sv) (t : Sv) (a : Act) (W : World) : Prop :=
  ∃ (bs : List Nat) (u2 u3 u4 u5 u6 u7 u8 u9 u10 u11 u12 u13 u14 u15 u16 u17 u18 u19 u20 u21 u22 u23 u24 u25 u26 u27 u28 u29 u30 u31 u32 u33 u34 u35 : Value), a = { tmps := #[ptr gc, ptr gb, u2, u3, u4, u5, u6, u7, u8, u9, u10, u11, u12, u13, u14, u15, u16, u17, u18, u19, u20, u21, u22, u23, u24, u25, u26, u27, u28, u29, u30, u31, u32, u33, u34, u35], defers := bs.map markD } ∧ LbJ w l gc gb s t0 t bs W
set_option maxRecDepth 100000 in
set_option maxHeartbeats 8000000 in
theorem rsettle1_in (l gc : Nat) (s : St) (g : Gr) (es : List Qe) (a : Ra) (w : World) (h : CA w l gc s g es 0 0 [] a none 0 0) (hg : RcGood s g (ql es)) (hq : quietB s = true) :
    CallsIn Fence.wide 5 Tryz.prog 45 #[ptr gc] w fun x w' => x = .returned (.tuple #[]) ∧ GrownP (fun i => l ≤ i) w w' ∧ SA w' l gc s (setF s ⟨g, ql es, [], 0⟩) := by
  obtain ⟨t0, ht0⟩ : ∃ t0 : Sv, t0 = ⟨g, ql es, [], 0⟩ := ⟨_, rfl⟩
  have hlen := hg.2.1
  have h16 : wN (ql es) ≤ 8000 := by
    have h1 := wN_le (es := es) (fun x hx => by have := (hg.2.2 _ (ql_mem hx)).1.2.1; dsimp only at this; omega) es.length
    rw [List.take_length] at h1
    have h2 := hg.1.2.1.2.1
    rw [ql_len] at hlen
    omega
  have HOK := hid (show SvOk s t0 by rw [ht0]; exact ⟨hg, hq, by have := hg.1.2.1.1; dsimp only; omega⟩)
  have HS := hid (show SA w l gc s t0 by rw [ht0]; exact ⟨a, es, 0, none, 0, rfl, h⟩)
  have HR := hid (h.rcrg hg); have HQ := hid hq; have HB := hid (Below.refl w.heap.size w); have HC := hid h; have HLW := hid h.low; have H16 := hid (show t0.ran.length + wN t0.qs ≤ 8000 by rw [ht0]; dsimp only; simpa using h16)
  rw [← ht0]
  clear h hg hq hlen h16 ht0
  refine callsIn_of_wp_marks Tryz.func45 rfl trivial ?_ rfl
  simp only [Tryz.ntmps45, List.size_toArray, List.length_cons, List.length_nil, Nat.reduceAdd, Nat.reduceSub, Array.replicate_succ, Array.replicate_zero, List.push_toArray, List.append_toArray, List.nil_append, List.cons_append]
  refine wpIn_wide.2 ?_
  have bx := below_box w (.cells #[ptr gc] 72)
  replace HS := hid (HS.out.step bx); replace HR := hid (HR.out.step bx); replace HC := hid (HC.out.step bx); replace HB := hid (below_then HB.out bx)
  clear bx
  have PB := hid (Blk.new w 72 #[ptr gc])
  obtain ⟨y00, yf0⟩ := PB.out.cells1
  obtain ⟨y0, y1, y2, y3, y4, y5, y6, y7, y8, y9, y10, yf⟩ := HC.out.box.cells11
  go_wp2_with fail
  generalize w.alloc (.cells #[ptr gc] 72) = W0 at *
  refine wp_scope_label_t 0 (StJ w l gc w.heap.size s t0) mu rfl (fun hlabel => ?_) ?_
  ·skip
   go_wp2_with fail
   clear y0 y1 y2 y3 y4 y5 y6 y7 y8 y9 y10 yf y00 yf0
   refine (rquiet_any s g es a _ HR.out).mono ?_
   rintro e w1 ⟨rfl, hb⟩
   replace HS := hid (HS.out.step hb); replace HR := hid (HR.out.step hb); replace HC := hid (HC.out.step hb); replace PB := hid (PB.out.step hb); replace HB := hid (below_then HB.out hb)
   clear hb
   rw [HQ.out]
   go_wp2_with fail
   refine (rneed_yes 241 _).mono ?_
   rintro x v1 ⟨rfl, rfl⟩
   go_wp2_with fail
   have hJ := hid (show LbJ w l gc w.heap.size s t0 t0 [] v1 from ⟨HOK.out, HS.out, rfl, PB.out, Marks.nil _ _, .ofBelow HB.out, H16.out⟩)
   rename Act → World → Prop => K9
   rename ∀ (a : Act) (w : World), Code.wp Tryz.prog _ _ a w → K9 a w => hK9
   refine wp_label (hK9 _ _ (hlabel.out t0 _ _ ?_))
   exact ⟨[], _, _, _, _, _, _, _, _, _, _, _, _, _, _, _, _, _, _, _, _, _, _, _, _, _, _, _, _, _, _, _, _, _, _, rfl, hJ.out⟩
  rintro t ac W9 hJ
  obtain ⟨bs, hJ⟩ := hJ
  obtain ⟨u2, hJ⟩ := hJ
  obtain ⟨u3, hJ⟩ := hJ
  obtain ⟨u4, hJ⟩ := hJ
  obtain ⟨u5, hJ⟩ := hJ
  obtain ⟨u6, hJ⟩ := hJ
  obtain ⟨u7, hJ⟩ := hJ
  obtain ⟨u8, hJ⟩ := hJ
  obtain ⟨u9, hJ⟩ := hJ
  obtain ⟨u10, hJ⟩ := hJ
  obtain ⟨u11, hJ⟩ := hJ
  obtain ⟨u12, hJ⟩ := hJ
  obtain ⟨u13, hJ⟩ := hJ
  obtain ⟨u14, hJ⟩ := hJ
  obtain ⟨u15, hJ⟩ := hJ
  obtain ⟨u16, hJ⟩ := hJ
  obtain ⟨u17, hJ⟩ := hJ
  obtain ⟨u18, hJ⟩ := hJ
  obtain ⟨u19, hJ⟩ := hJ
  obtain ⟨u20, hJ⟩ := hJ
  obtain ⟨u21, hJ⟩ := hJ
  obtain ⟨u22, hJ⟩ := hJ
  obtain ⟨u23, hJ⟩ := hJ
  obtain ⟨u24, hJ⟩ := hJ
  obtain ⟨u25, hJ⟩ := hJ
  obtain ⟨u26, hJ⟩ := hJ
  obtain ⟨u27, hJ⟩ := hJ
  obtain ⟨u28, hJ⟩ := hJ
  obtain ⟨u29, hJ⟩ := hJ
  obtain ⟨u30, hJ⟩ := hJ
  obtain ⟨u31, hJ⟩ := hJ
  obtain ⟨u32, hJ⟩ := hJ
  obtain ⟨u33, hJ⟩ := hJ
  obtain ⟨u34, hJ⟩ := hJ
  obtain ⟨u35, hJ⟩ := hJ
  obtain ⟨rfl, h1, h2, h3, h4, h5, h6, h7⟩ := hJ
  clear HOK HS HR HB HC PB H16 y0 y1 y2 y3 y4 y5 y6 y7 y8 y9 y10 yf y00 yf0
  have HOK := hid h1; have HS := hid h2; have HF := hid h3; have PB := hid h4; have HM := hid h5; have HG := hid h6; have HN := hid h7
  clear h1 h2 h3 h4 h5 h6 h7
  obtain ⟨a9, es9, what, R, kr, hq9, hc9⟩ := HS.out
  have HC := hid hc9; have HR := hid (hc9.rcrg (by rw [hq9]; exact HOK.out.1)); have HQ9 := hid hq9
  clear hq9 hc9
  obtain ⟨y00, yf0⟩ := PB.out.cells1
  obtain ⟨y0, y1, y2, y3, y4, y5, y6, y7, y8, y9, y10, yf⟩ := HC.out.box.cells11
  go_wp2_with fail
  clear y0 y1 y2 y3 y4 y5 y6 y7 y8 y9 y10 yf y00 yf0
  refine (rcidle_any s t.g es9 a9 _ HR.out).mono ?_
  rintro e w1 ⟨rfl, hb⟩
  replace HS := hid (HS.out.step hb); replace PB := hid (PB.out.step hb); replace HM := hid (HM.out.keep (fun b o ho _ => (hb.block b (Array.getElem?_eq_some_iff.1 ho).1).trans ho)); replace HG := hid (HG.out.step hb)
  clear hb HC HR
  rw [HQ9.out]
  clear HQ9
  by_cases hid9 : idleB s t.g t.qs = true
  ·skip
   rw [hid9]
   go_wp2_with fail
   refine leaves_marks (lo := l) (fun W' => GrownP (fun i => l ≤ i) w W' ∧ SA W' l gc s t) (fun A B b o hA hg hl ho hc => ⟨hA.1.trans (GrownP.ofGrown hg hl), hA.2.abides hg (fun r e => by cases e; exact ⟨o, ho, hc⟩)⟩) (fun W hW => ?_) bs w1 HM.out ⟨HG.out, HS.out⟩
   exact ⟨.tuple #[], results_none rfl _ _ _, rfl, hW.1, by rw [← HF.out, setF_idle hid9]; exact hW.2⟩
  have HID := hid (show idleB s t.g t.qs = false by simpa using hid9)
  clear hid9
  rw [HID.out]
  obtain ⟨y00, yf0⟩ := PB.out.cells1
  go_wp2_with fail
  clear y00 yf0
  refine (s_pick HS.out HOK.out).mono ?_
  rintro x w2 ⟨rfl, hs2, hg2, hk2, hp2⟩
  have HS2 := hid hs2
  have hgb := hid (show w.heap.size < w1.heap.size from PB.out.lt)
  replace PB := hid (hp2 _ _ PB.out)
  replace HM := hid (HM.out.keep hk2.same); replace HG := hid (HG.out.trans hg2)
  clear hs2 hg2 hk2 hp2 HS
  obtain ⟨y00, yf0⟩ := PB.out.cells1
  go_wp2_with fail
  clear y00 yf0
  refine (rcdone_any gc w2).mono ?_
  rintro x w3 ⟨rfl, rfl⟩
  have bx := below_box w2 (.cells #[ptr gc] 72)
  have PD := hid (Blk.new w2 72 #[ptr gc])
  replace HS2 := hid (HS2.out.step bx); replace PB := hid (PB.out.step bx)
  replace HM := hid (HM.out.keep (fun b o ho _ => (bx.block b (Array.getElem?_eq_some_iff.1 ho).1).trans ho)); replace HG := hid (HG.out.step bx)
  obtain ⟨gd, hgd⟩ : ∃ gd, gd = w2.heap.size := ⟨_, rfl⟩
  rw [← hgd] at PD ⊢
  clear bx hgd
  generalize w2.alloc (.cells #[ptr gc] 72) = w3 at *
  go_wp2_with fail
  obtain ⟨q1, hq1⟩ : ∃ q1, q1 = pkQ t := ⟨_, rfl⟩
  obtain ⟨gr1, hgr1⟩ : ∃ gr1, gr1 = gPick t.g t.k true := ⟨_, rfl⟩
  have HQ1 := hid hq1; have HGR1 := hid hgr1
  have hk1 : t.k < q1.length := by rw [hq1, pk_len]; exact HOK.out.2.2
  have hn1 : q1.length ≤ 1000 := by rw [hq1, pk_len]; have h1 := HOK.out.1.2.1; have h2 := HOK.out.1.1.2.1.2.1; omega
  have hgd := (good_pick HOK.out).2.2 _ (qAt_mem (by rw [← hq1]; exact hk1))
  rw [← hq1] at hgd
  have HGP := hid (SvOk.run HOK.out); have HRC := hid (ran_count HOK.out)
  rw [← hq1, ← hgr1] at HGP; rw [← hq1] at HRC
  have HS3 := hid (show SA w3 l gc s (tJ gr1 q1 t.ran t.k 0) by rw [tJ_zero _ _ _ _ hk1, hgr1, hq1]; exact HS2.out)
  have HK1 := hid hk1
  have HMB := hid (show ∀ b ∈ bs, b < w3.heap.size from fun b hb => (HM.out.2 b hb).2.1)
  have HLW3 := hid (show l ≤ w3.heap.size from Nat.le_trans HLW.out HG.out.size)
  clear HS2
  refine (wpIn_wide (n := 5)).1 ?_
  refine' wpIn_rangeFunc_read rfl (by omega) (gf := 87) (lb := #[ptr gd]) rfl trivial (enters_of Tryz.func87 (by kernel_rfl) rfl)
    (rcdone_seq (5 - 1) l gc gd s gr1 q1 t.ran t.k (by omega) hk1 hn1 hgd.1.2.1 hgd.1.1) (fun _ => rfl)
    (fun j W => RdS l gc gd s gr1 q1 t.ran t.k j W ∧ Blk W w.heap.size 72 #[ptr gc] ∧ Marks l W bs ∧ GrownP (fun i => l ≤ i) w W ∧ w3.heap.size ≤ W.heap.size) (fun _ _ _ => False)
    ?books (fun _ _ _ _ _ h _ _ => h) ?steps (fun j W _ h => h.1) ⟨⟨PD.out, HS3.out⟩, PB.out, HM.out, HG.out, Nat.le_refl _⟩ _ ?assign ?body ?done (fun _ _ _ _ _ h => h.elim)
  case books =>
    rintro j A B row ⟨⟨h1, h2⟩, h3, h4, h5, h6⟩ hg hr
    have hr2 : ∀ r, row = some r → ∃ o : Obj, A.heap[r]? = some o ∧ o.isCells = false := fun r e => (hr r e).2
    refine ⟨⟨h1.abides hg hr2, h2.abides hg hr2⟩, h3.abides hg hr2, ⟨h4.1, fun b hb => ?_⟩, ?_, Nat.le_trans h6 hg.size⟩
    · obtain ⟨k1, k2, k3⟩ := h4.2 b hb
      have hne : some b ≠ row := fun e => by have := (hr b e.symm).1; have := HMB.out b hb; omega
      exact ⟨k1, Nat.lt_of_lt_of_le k2 hg.size, (hg.block b k2 hne).trans k3⟩
    · refine h5.trans ⟨hg.os, hg.tape, hg.output, hg.size, fun i hi hp => hg.block i hi (fun e => hp ?_)⟩
      have := (hr i e.symm).1
      have := HLW3.out
      show l ≤ i
      omega
  case steps =>
    rintro j A B ⟨⟨h1, h2⟩, h3, h4, h5, h6⟩ hb
    exact ⟨⟨h1.step hb, h2.step hb⟩, h3.step hb, h4.keep (fun b o ho _ => (hb.block b (Array.getElem?_eq_some_iff.1 ho).1).trans ho), h5.step hb, Nat.le_trans h6 hb.size⟩
  case assign =>
    intro l' k' W K hK
    have HK := hid hK
    clear hK
    gi_wp2_with fail
    exact HK.out
  case body =>
    rintro l' j W hj ⟨⟨h1, h2⟩, h3, h4, h5, h6⟩
    have HD2 := hid h1; have HS4 := hid h2; have PB4 := hid h3; have HM4 := hid h4; have HG4 := hid h5; have HZ4 := hid h6
    clear h1 h2 h3 h4 h5 h6
    obtain ⟨y00, yf0⟩ := PB4.out.cells1
    gi_wp2_with fail
    clear y00 yf0
    refine ⟨trivial, (CallsIn.inRound l' (callsIn_wide.2 (s_run HS4.out (HGP.out j) (by show t.k < (drQ q1 t.k j).length; rw [drQ_len]; exact HK1.out) (by show 0 < drN (drQ q1 t.k j) t.k; rw [drN_drQ q1 t.k j HK1.out (Nat.le_of_lt hj)]; omega) (by show (t.ran ++ drR q1 t.k j).length ≤ 100000; have h1 := HRC.out j; have h2 := HN.out; omega)))).mono ?_⟩
    rintro x W5 ⟨rfl, hs5, hg5, hk5, hp5⟩
    gi_wp2_with fail
    exact ⟨hk5.from _, ⟨⟨hp5 _ _ HD2.out, by rw [← tJ_succ _ _ _ _ _ HK1.out]; exact hs5⟩, hp5 _ _ PB4.out, HM4.out.keep hk5.same, HG4.out.trans hg5, Nat.le_trans HZ4.out hk5.size⟩, trivial⟩
  case done =>
    rintro mb W hmb ⟨⟨h1, h2⟩, h3, h4, h5, h6⟩ hD
    have HS4 := hid h2; have PB4 := hid h3; have HG4 := hid h5
    have HM4 := hid (h4.cons (b := mb) (fun hm => by have := HMB.out mb hm; omega) (by have := HLW3.out; omega) (show W.heap[mb]? = some (.deferred (some [])) from hD))
    clear h1 h2 h3 h4 h5 h6 hD HM PB HG HS3 PD HMB HGP
    obtain ⟨a5, es5, what5, R5, kr5, hq5, hc5⟩ := HS4.out
    have HC5 := hid (show CA W l gc s gr1 es5 (t.k : Nat) what5 (t.ran ++ drR q1 t.k (drN q1 t.k)) a5 R5 (t.ran ++ drR q1 t.k (drN q1 t.k)).length kr5 from hc5); have HQ5 := hid hq5
    have hl5 := hid (show a5.nq = q1.length by rw [← hc5.qs.len]; have h1 := congrArg List.length hq5; rw [ql_len] at h1; exact h1.trans (drQ_len _ _ _))
    clear hc5 hq5
    go_upto_region 6 with fail
    have hn5 : 1 ≤ a5.nq ∧ a5.nq ≤ 1000 := by have h1 := hl5.out; have h2 := HK1.out; omega
    have hk5 : t.k < 1000 := by have h2 := HK1.out; omega
    obtain ⟨k2, hk2⟩ : ∃ k2 : Nat, k2 = (t.k + 1) % a5.nq := ⟨_, rfl⟩
    have hadd : IntKind.i64.wrap ((t.k : Int) + 1) = (t.k : Int) + 1 := by rw [IntKind.wrap_i64]; omega
    have hrem : ((t.k : Int) + 1).tmod (a5.nq : Int) = (k2 : Int) := by rw [hk2, Int.tmod_eq_emod_of_nonneg (by omega), ← Int.natCast_succ, ← Int.natCast_emod]
    have HK2 := hid hk2
    clear hk2
    have hnz : ¬ ((a5.nq : Int) = 0) := by omega
    have hnz2 : ¬ (a5.nq = 0) := by omega
    clear hn5 hk5
    replace HM4 := hid (show Marks l W.drew (mb :: bs) from HM4.out)
    have bx := (Below.refl W.heap.size W).drew
    replace PB4 := hid (PB4.out.step bx); replace HC5 := hid (HC5.out.step bx); replace HS4 := hid (HS4.out.step bx); replace HG4 := hid (HG4.out.step bx)
    clear bx
    have hszd := hid (show W.drew.heap.size = W.heap.size from rfl)
    refine wp_region_noPanic ?_
    refine wp_region_held_tail 15 (fun W' : World => W'.cell? ⟨w.heap.size, 0, none⟩ = some (ptr gc) ∧ W'.cell? ⟨gc, 7, none⟩ = some (.slice a5.Q a5.nq a5.kq) ∧ W'.cell? ⟨gc, 8, none⟩ = some (.int .i64 (t.k : Nat))) #[false, false, false, false, false, false, false, false, false, false, false, false, false, false, false, false] (by kernel_rfl) ⟨PB4.out.cells1.1, (HC5.out.box).cells11.2.2.2.2.2.2.2.1, (HC5.out.box).cells11.2.2.2.2.2.2.2.2.1⟩ (by kernel_rfl) (by kernel_rfl) (fun hS => ?_)
    generalize W.drew = Wd at *
    refine tkT 0 hS ?_
    refine tkT 1 hS ?_
    refine tkT 2 hS ?_
    refine tkT 3 hS ?_
    refine tkT 4 hS ?_
    refine tkT 5 hS ?_
    refine tkT 6 hS ?_
    refine tkT 7 hS ?_
    refine tkT 8 hS ?_
    refine tkT 9 hS ?_
    refine tkT 10 hS ?_
    refine tkT 11 hS ?_
    refine tkT 12 hS ?_
    refine tkT 13 hS ?_
    refine tkT 14 hS ?_
    refine wpAnyT_done (by kernel_rfl) ?_
    simp only [List.drop_succ_cons, List.drop_zero]
    clear hS
    obtain ⟨y0, y1, y2, y3, y4, y5, y6, y7, y8, y9, y10, yf⟩ := HC5.out.box.cells11
    go_wp2_with fail
    refine NoPanic.normal ?_
    clear y0 y1 y2 y3 y4 y5 y6 y7 y8 y9 y10 yf
    have hgr := grown_set (World.grownBy.refl Wd (some gc)) 8 (.int .i64 (k2 : Int))
    replace PB4 := hid (PB4.out.grown hgr (fun e => HC5.out.box.neT PB4.out (by decide) (Option.some.inj e).symm))
    replace HS4 := hid (s_is HS4.out k2 hgr (fun s g a is what R nr kr hb => hb.setCell 8 _))
    replace HM4 := hid (HM4.out.keep (fun b o ho hc => (hgr.block b (Array.getElem?_eq_some_iff.1 ho).1 (fun e => by cases e; rw [HC5.out.box.notOther ho] at hc; cases hc)).trans ho))
    replace HG4 := hid (HG4.out.trans (GrownP.ofGrown hgr HC5.out.lg))
    clear hgr
    generalize Wd.setCell ⟨gc, 8, none⟩ (.int .i64 (k2 : Int)) = Wc15 at *
    go_wp2
    go_step3
    have hte : (⟨gr1, drQ q1 t.k (drN q1 t.k), t.ran ++ drR q1 t.k (drN q1 t.k), k2⟩ : Sv) = turnF t := by rw [HK2.out, hl5.out, HQ1.out, HGR1.out, pk_len]; rfl
    have HJ := hid (show LbJ w l gc w.heap.size s t0 (turnF t) (mb :: bs) Wc15 from ⟨turn_ok HOK.out, by rw [← hte]; exact HS4.out, by rw [← HF.out, setF_step HOK.out HID.out], PB4.out, HM4.out, HG4.out, by
      rw [← hte]
      have h1 := HRC.out (drN q1 t.k); have h2 := HN.out
      show (t.ran ++ drR q1 t.k (drN q1 t.k)).length + wN (drQ q1 t.k (drN q1 t.k)) ≤ 8000
      omega⟩)
    exact ⟨rfl, turnF t, ⟨mb :: bs, _, _, _, _, _, _, _, _, _, _, _, _, _, _, _, _, _, _, _, _, _, _, _, _, _, _, _, _, _, _, _, _, _, _, rfl, HJ.out⟩, mu_turn HOK.out HID.out⟩
def sv0 (g : Gr) (es : List Qe) : Sv := ⟨g, ql es, [], 0⟩
/-- Settle: the error, and all that is held -/
def settleC (s : St) (g : Gr) (es : List Qe) : Int × St × Gr × Qs × List Int :=
  if RcOk s g es then (if quietB s then (0, s, (setF s (sv0 g es)).g, (setF s (sv0 g es)).qs, (setF s (sv0 g es)).ran) else (241, (0, [], []), zGr, [], [])) else (240, (0, [], []), zGr, [], [])
theorem settleC_nz {s : St} {g : Gr} {es : List Qe} (h : (settleC s g es).1 ≠ 0) : (settleC s g es).2 = ((0, [], []), zGr, [], []) := by
  unfold settleC at h ⊢
  split at h
  · rename_i e
    rw [if_pos e]
    split at h
    · exact absurd rfl h
    · rename_i e2; rw [if_neg e2]
  · rename_i e; rw [if_neg e]
theorem sv0_ok {s : St} {g : Gr} {es : List Qe} (hg : RcGood s g (ql es)) (hq : quietB s = true) : SvOk s (sv0 g es) :=
  ⟨hg, hq, by show 0 < (ql es).length; have := hg.2.1; have := hg.1.2.1.1; omega⟩
theorem rsettle_any (s : St) (g : Gr) (es : List Qe) (a : Ra) (w : World) (h : RcR w s g es a) : Calls Tryz.prog 16 #[rcv s g a] w (RnPost w (settleC s g es)) := by
  refine rsettle_from s g es a w _ h settleC_nz (fun hn => if_neg hn) (fun hok l gc es1 a1 W hca hgd hql => ?_)
  unfold settleC
  rw [if_pos hok]
  by_cases hq : quietB s = true
  · rw [if_pos hq]
    refine (callsIn_wide.1 (rsettle1_in l gc s g es1 a1 W hca hgd hq)).mono ?_
    rintro x w' ⟨rfl, hg, a2, es2, what, R, kr, h1, h2⟩
    have e : (⟨g, ql es1, [], 0⟩ : Sv) = sv0 g es := by unfold sv0; rw [hql]
    rw [e] at h1 h2
    exact ⟨hg, .inl ⟨rfl, rfl, a2, es2, _, what, R, _, kr, h1, h2⟩⟩
  · have hq' : quietB s = false := by simpa using hq
    rw [if_neg hq]
    refine (rsettle1_open l gc s g es1 a1 W hca hgd hq').mono ?_
    rintro x w' ⟨rfl, hb⟩
    exact ⟨.ofBelow hb, .inr ⟨241, rfl, by decide, rfl⟩⟩
/-- what Settle hands back, as the laws use it -/
def SeP (r : Int × St × Gr × Qs × List Int) (w : World) (x : Ending) (w' : World) : Prop :=
  ∃ a es R kr, x = .returned (.tuple #[rcv r.2.1 r.2.2.1 a, .slice R r.2.2.2.2.length kr, .int .i64 r.1]) ∧ ql es = r.2.2.2.1 ∧ a.nq = es.length ∧ RcP (fun i => i < w.heap.size) w' r.2.1 r.2.2.1 es a ∧ Ow u64v w' w.heap.size 35 R r.2.2.2.2.length kr r.2.2.2.2 ∧ Below w.heap.size w w'
theorem settleC_ok {s : St} {g : Gr} {es : List Qe} (h : (settleC s g es).1 = 0) : RcGood s g (ql es) ∧ quietB s = true ∧ settleC s g es = (0, s, (setF s (sv0 g es)).g, (setF s (sv0 g es)).qs, (setF s (sv0 g es)).ran) := by
  unfold settleC at h ⊢
  split at h
  · rename_i e
    rw [if_pos e]
    split at h
    · rename_i e2; exact ⟨rcOk_iff.1 e, e2, if_pos e2⟩
    · exact absurd h (by simp)
  · exact absurd h (by simp)
end Go.Proofs.YtfipdoofgbjbjaaGreat

/- afterglowref14: Settle. No condition but sizes. -/
namespace Go.Proofs.YtfipdoofgbjbjaaGreat
open Go.RowKit
attribute [local go_sem] Oper.semAt_some
def SJ (pp : Nat → Prop) (w : World) (s : St) (F t : Sv) (B : Option Addr) (m d : Nat) (wr : World) : Prop :=
  ∃ a es, SvOk s t ∧ setF s t = F ∧ t.ran.length + wN t.qs ≤ 8000 ∧ ql es = t.qs ∧ a.nq = es.length ∧ Blk wr w.heap.size 30 (rcells s t.g a) ∧ Blk wr (w.heap.size + 1) 30 #[.int .i64 0, .slice none 0 0, .slice none 0 0, .int .i64 0, .int .i64 0, .bool false, .slice none 0 0, .slice none 0 0] ∧
    RcP (pOut pp B) wr s t.g es a ∧ Ow u64v wr (w.heap.size + 2) 35 B m d t.ran ∧ Below w.heap.size w wr ∧ w.heap.size + 2 ≤ wr.heap.size
noncomputable def lbM (pp : Nat → Prop) (w : World) (s : St) (F : Sv) (o : Value) (wr : World) : Nat := leastN (fun n => ∃ (t : Sv) (B : Option Addr) (m d : Nat), o = .slice B m d ∧ t.k = 0 ∧ SJ pp w s F t B m d wr ∧ mu t = n)
end Go.Proofs.YtfipdoofgbjbjaaGreat

/- afterglowref14: Right. No condition but sizes, and that numbers are of their kinds. -/
namespace Go.Proofs.YtfipdoofgbjbjaaGreat
open Go.RowKit
attribute [local go_sem] Oper.semAt_some
def qOk (g : Gr) (x : List Cb × Int) : Prop := QGood x.2 x.1 ∧ x.2 = g.dn ∧ ∀ c ∈ x.1, c.1 ≤ g.ak
instance {s : St} {g : Gr} {qs : Qs} : Decidable (RcGood s g qs) := by unfold RcGood Both; infer_instance
end Go.Proofs.YtfipdoofgbjbjaaGreat

/- afterglowref14: Same. No condition but sizes, and that numbers are of their kinds. -/
namespace Go.Proofs.YtfipdoofgbjbjaaGreat
open Go.RowKit
attribute [local go_sem] Oper.semAt_some
def sameRc (s : St) (g : Gr) (qs : Qs) (s' : St) (g' : Gr) (qs' : Qs) : Bool := sameR s.1 s.2.1 s.2.2 s'.1 s'.2.1 s'.2.2 && (sameG g g' && decide (qs = qs'))
end Go.Proofs.YtfipdoofgbjbjaaGreat

/- afterglowlaw14: spoil. It comes to an end, whatever the numbers are, and turns nothing below a block. No condition but sizes. -/
namespace Go.Proofs.YtfipdoofgbjbjaaGreat
open Go.RowKit
attribute [local go_sem] Oper.semAt_some
def likeV : Value → Value → Prop
  | .int k _, u => ∃ y, u = .int k y
  | .bool _, u => ∃ y, u = .bool y
  | v, u => u = v
theorem likeV.refl (v : Value) : likeV v v := by cases v <;> simp [likeV]
theorem likeV.trans {a b c : Value} (h : likeV a b) (k : likeV b c) : likeV a c := by
  cases a <;> simp only [likeV] at h ⊢ <;> first | (subst h; exact k) | (obtain ⟨y, rfl⟩ := h; exact k)
/-- cells keep their kinds; what is neither a number nor a bool is kept -/
def KK (w w' : World) : Prop := ∀ b o v, w.cell? ⟨b, o, none⟩ = some v → ∃ u, w'.cell? ⟨b, o, none⟩ = some u ∧ likeV v u ∧ (w.frozen? ⟨b, o, none⟩ = false → w'.frozen? ⟨b, o, none⟩ = false)
theorem KK.refl (w : World) : KK w w := fun _ _ v h => ⟨v, h, .refl v, id⟩
theorem KK.trans {a b c : World} (h : KK a b) (k : KK b c) : KK a c := fun x o v hv => by
  obtain ⟨u, h1, h2, h3⟩ := h x o v hv
  obtain ⟨t, k1, k2, k3⟩ := k x o u h1
  exact ⟨t, k1, h2.trans k2, fun hf => k3 (h3 hf)⟩
theorem KK.set {w : World} {b o : Nat} {v u : Value} (hv : w.cell? ⟨b, o, none⟩ = some v) (hl : likeV v u) : KK w (w.setCell ⟨b, o, none⟩ u) := fun x i t ht => by
  by_cases e : x = b ∧ i = o
  · obtain ⟨rfl, rfl⟩ := e
    rw [hv] at ht; cases ht
    exact ⟨u, by rw [World.cell?_setCell_same _ _ _ (by rw [hv])], hl, fun hf => by rw [World.frozen?_setCell]; exact hf⟩
  · exact ⟨t, (World.cell?_setCell_other w _ _ _ (fun he => e (by simp at he; omega))).trans ht, .refl t, fun hf => by rw [World.frozen?_setCell]; exact hf⟩
theorem cell_lt' {w : World} {b o : Nat} {v : Value} (h : w.cell? ⟨b, o, none⟩ = some v) : b < w.heap.size := by
  rcases Nat.lt_or_ge b w.heap.size with hb | hb
  · exact hb
  · unfold World.cell? at h
    simp [Array.getElem?_eq_none hb] at h
theorem KK.below {w w' : World} (hb : Below w.heap.size w w') : KK w w' := fun x i t ht =>
  ⟨t, (hb.cell (p := ⟨x, i, none⟩) (cell_lt' ht)).trans ht, .refl t, fun hf => (hb.frozen (p := ⟨x, i, none⟩) (cell_lt' ht)).trans hf⟩
theorem KK.slice {w w' : World} (h : KK w w') {b o : Nat} {A : Option Addr} {n c : Nat} (hc : w.cell? ⟨b, o, none⟩ = some (.slice A n c)) : w'.cell? ⟨b, o, none⟩ = some (.slice A n c) := by
  obtain ⟨u, h1, h2, _⟩ := h b o _ hc
  simp only [likeV] at h2
  rw [h1, h2]
theorem KK.int {w w' : World} (h : KK w w') {b o : Nat} {k : IntKind} {x : Int} (hc : w.cell? ⟨b, o, none⟩ = some (.int k x)) (hf : w.frozen? ⟨b, o, none⟩ = false) : (∃ y, w'.cell? ⟨b, o, none⟩ = some (.int k y)) ∧ w'.frozen? ⟨b, o, none⟩ = false := by
  obtain ⟨u, h1, ⟨y, rfl⟩, h3⟩ := h b o _ hc
  exact ⟨⟨y, h1⟩, h3 hf⟩
theorem KK.bool {w w' : World} (h : KK w w') {b o : Nat} {x : Bool} (hc : w.cell? ⟨b, o, none⟩ = some (.bool x)) (hf : w.frozen? ⟨b, o, none⟩ = false) : (∃ y, w'.cell? ⟨b, o, none⟩ = some (.bool y)) ∧ w'.frozen? ⟨b, o, none⟩ = false := by
  obtain ⟨u, h1, ⟨y, rfl⟩, h3⟩ := h b o _ hc
  exact ⟨⟨y, h1⟩, h3 hf⟩
theorem below_then2 {lo : Nat} {a b c : World} (h : Below lo a b) (k : Below b.heap.size b c) (hl : lo ≤ a.heap.size) : Below lo a c := ⟨k.os.trans h.os, k.tape.trans h.tape, k.output.trans h.output, Nat.le_trans h.size k.size, fun i hi => (k.block i (by have := h.size; omega)).trans (h.block i hi)⟩
theorem GrownP.sc {p : Nat → Prop} {w a : World} (h : GrownP p w a) {b : Nat} (hb : p b) {o : Nat} (u : Value) : GrownP p w (a.setCell ⟨b, o, none⟩ u) := h.trans (GrownP.ofGrown (grown_set (World.grownBy.refl a (some b)) o u) hb)
theorem GrownP.bl {p : Nat → Prop} {w a b : World} (h : GrownP p w a) (k : Below a.heap.size a b) : GrownP p w b := h.trans (GrownP.ofBelow k)
/-- a row of cells of a kind that may be written -/
def Wr (w : World) (p : Nat → Prop) (A : Option Addr) (n : Nat) (sz at' : Nat) (like : Value) : Prop := 0 < n → ∃ b off, A = some ⟨b, off, none⟩ ∧ p b ∧ ∀ k, k < n → ∃ v, w.cell? ⟨b, off + (k * sz + at'), none⟩ = some v ∧ likeV like v ∧ w.frozen? ⟨b, off + (k * sz + at'), none⟩ = false
theorem Wr.kk {w w' : World} {p : Nat → Prop} {A : Option Addr} {n sz at' : Nat} {l : Value} (h : Wr w p A n sz at' l) (k : KK w w') : Wr w' p A n sz at' l := fun hn => by
  obtain ⟨b, off, h1, h2, h3⟩ := h hn
  refine ⟨b, off, h1, h2, fun j hj => ?_⟩
  obtain ⟨v, k1, k2, k3⟩ := h3 j hj
  obtain ⟨u, g1, g2, g3⟩ := k b _ v k1
  exact ⟨u, g1, k2.trans g2, g3 k3⟩
/-- what may be spoiled -/
structure Spl (w : World) (p : Nat → Prop) (a : Ra) (nd : Nat) (es : List Qe) : Prop where
  wa : Wr w p a.A a.n 1 0 (.int .i64 0)
  wb : Wr w p a.B a.m 1 0 (.int .i64 0)
  wd : Wr w p a.D nd 1 0 (.bool false)
  wq : Wr w p a.Q a.nq 2 1 (.int .u64 0)
  qs : 0 < a.nq → ∃ b off, a.Q = some ⟨b, off, none⟩ ∧ ∀ k, k < a.nq → w.cell? ⟨b, off + k * 2, none⟩ = some (.slice (es[k]?.getD zQe).A (es[k]?.getD zQe).n (es[k]?.getD zQe).c)
  ql : ∀ k, k < a.nq → Wr w p (es[k]?.getD zQe).A (es[k]?.getD zQe).n 2 1 (.int .u64 0)
  na : a.n ≤ 1000
  nb : a.m ≤ 1000
  nn : nd ≤ 1000
  nq : a.nq ≤ 1000
  qn : ∀ k, k < a.nq → (es[k]?.getD zQe).n ≤ 1000
theorem Spl.kk {w w' : World} {p : Nat → Prop} {a : Ra} {nd : Nat} {es : List Qe} (h : Spl w p a nd es) (k : KK w w') : Spl w' p a nd es :=
  ⟨h.wa.kk k, h.wb.kk k, h.wd.kk k, h.wq.kk k, fun hn => by
    obtain ⟨b, off, h1, h2⟩ := h.qs hn
    exact ⟨b, off, h1, fun j hj => k.slice (h2 j hj)⟩, fun j hj => (h.ql j hj).kk k, h.na, h.nb, h.nn, h.nq, h.qn⟩
end Go.Proofs.YtfipdoofgbjbjaaGreat

/- sorting a row of words, plainly: swaps, what they keep; a row whose cells may be written. No condition. -/
namespace Go.Proofs.YtfipdoofgbjbjaaGreat
open Go.RowKit
def swp (f : Nat → Int) (i j : Nat) : Nat → Int := fun k => if k = j then f i else if k = i then f j else f k
theorem swp_r (f : Nat → Int) (i j : Nat) : swp f i j j = f i := if_pos rfl
theorem swp_l (f : Nat → Int) (i j : Nat) : swp f i j i = f j := by
  unfold swp
  by_cases h : i = j
  · rw [if_pos h, h]
  · rw [if_neg h, if_pos rfl]
theorem swp_o (f : Nat → Int) {i j k : Nat} (hi : k ≠ i) (hj : k ≠ j) : swp f i j k = f k := by unfold swp; rw [if_neg hj, if_neg hi]
/-- swaps between a and z, one behind the other -/
inductive Swp (a z : Nat) (f : Nat → Int) : (Nat → Int) → Prop
  | refl : Swp a z f f
  | step {g : Nat → Int} {i j : Nat} (h : Swp a z f g) (hi : a ≤ i) (hi2 : i < z) (hj : a ≤ j) (hj2 : j < z) : Swp a z f (swp g i j)
theorem Swp.trans {a z : Nat} {f g h : Nat → Int} (h1 : Swp a z f g) (h2 : Swp a z g h) : Swp a z f h := by
  induction h2 with
  | refl => exact h1
  | step _ hi hi2 hj hj2 ih => exact .step ih hi hi2 hj hj2
theorem Swp.mono {a z a' z' : Nat} {f g : Nat → Int} (h : Swp a z f g) (h1 : a' ≤ a) (h2 : z ≤ z') : Swp a' z' f g := by
  induction h with
  | refl => exact .refl
  | step _ hi hi2 hj hj2 ih => exact .step ih (by omega) (by omega) (by omega) (by omega)
theorem Swp.out {a z : Nat} {f g : Nat → Int} (h : Swp a z f g) {k : Nat} (hk : k < a ∨ z ≤ k) : g k = f k := by
  induction h with
  | refl => rfl
  | step _ hi hi2 hj hj2 ih => rw [swp_o _ (by omega) (by omega)]; exact ih
theorem Swp.all {a z : Nat} {f g : Nat → Int} (h : Swp a z f g) {P : Int → Prop} (hp : ∀ k, a ≤ k → k < z → P (f k)) : ∀ k, a ≤ k → k < z → P (g k) := by
  induction h with
  | refl => exact hp
  | @step g i j _ hi hi2 hj hj2 ih =>
    intro k h1 h2
    unfold swp
    split
    · exact ih _ hi hi2
    · split
      · exact ih _ hj hj2
      · exact ih _ h1 h2
theorem swp_perm (f : Nat → Int) {i j n : Nat} (hi : i < n) (hj : j < n) : ((List.range n).map (swp f i j)).Perm ((List.range n).map f) := by
  have e : swp f i j = f ∘ fun k => if k = j then i else if k = i then j else k := by
    funext k
    unfold swp
    dsimp only [Function.comp]
    split
    · rfl
    · split <;> rfl
  rw [e, ← List.map_map]
  refine List.Perm.map f ?_
  refine (List.perm_ext_iff_of_nodup ?_ List.nodup_range).2 fun x => ?_
  · refine List.pairwise_map.2 (List.nodup_range.imp fun {x y} h e => h ?_)
    revert e
    repeat' split
    all_goals omega
  · rw [List.mem_map, List.mem_range]
    constructor
    · rintro ⟨k, hk, rfl⟩
      rw [List.mem_range] at hk
      split
      · exact hi
      · split
        · exact hj
        · exact hk
    · intro hx
      refine ⟨if x = j then i else if x = i then j else x, ?_, ?_⟩
      · rw [List.mem_range]
        split
        · exact hi
        · split
          · exact hj
          · exact hx
      · repeat' split
        all_goals omega
theorem Swp.perm {a z n : Nat} {f g : Nat → Int} (h : Swp a z f g) (hz : z ≤ n) : ((List.range n).map g).Perm ((List.range n).map f) := by
  induction h with
  | refl => exact .refl _
  | step _ hi hi2 hj hj2 ih => exact (swp_perm _ (by omega) (by omega)).trans ih
/-- from a to z it goes up -/
def Srt (a z : Nat) (f : Nat → Int) : Prop := ∀ i j, a ≤ i → i < j → j < z → f i ≤ f j
/-- a row of words that may be written -/
structure RwS (w : World) (b n : Nat) (f : Nat → Int) : Prop where
  cell : ∀ k, k < n → w.cell? ⟨b, k, none⟩ = some (.int .u64 (f k))
  free : ∀ k, k < n → w.frozen? ⟨b, k, none⟩ = false
section
variable {w w' : World} {b n : Nat} {f : Nat → Int}
theorem RwS.step (h : RwS w b n f) (hb : Below w.heap.size w w') : RwS w' b n f :=
  ⟨fun k hk => (hb.cell (p := ⟨b, k, none⟩) (cell_lt' (h.cell k hk))).trans (h.cell k hk), fun k hk => (hb.frozen (p := ⟨b, k, none⟩) (cell_lt' (h.cell k hk))).trans (h.free k hk)⟩
theorem RwS.set (h : RwS w b n f) {i : Nat} (hi : i < n) (v : Int) : RwS (w.setCell ⟨b, i, none⟩ (.int .u64 v)) b n (fun k => if k = i then v else f k) :=
  ⟨fun k hk => by
    by_cases e : k = i
    · subst e; rw [if_pos rfl]; exact World.cell?_setCell_same _ _ _ (by rw [h.cell k hk])
    · rw [if_neg e]; exact (World.cell?_setCell_other w _ _ _ (fun he => e (by have := congrArg Addr.off he; exact this.symm))).trans (h.cell k hk), fun k hk => by rw [World.frozen?_setCell]; exact h.free k hk⟩
theorem RwS.mid (h : RwS w b n f) {i j : Nat} (hi : i < n) (hj : j < n) : (w.setCell ⟨b, i, none⟩ (.int .u64 (f j))).cell? ⟨b, j, none⟩ = some (.int .u64 (f j)) := by
  rw [(h.set hi (f j)).cell j hj]
  split <;> rfl
theorem RwS.swap (h : RwS w b n f) {i j : Nat} (hi : i < n) (hj : j < n) : RwS ((w.setCell ⟨b, i, none⟩ (.int .u64 (f j))).setCell ⟨b, j, none⟩ (.int .u64 (f i))) b n (swp f i j) := by
  have := (h.set hi (f j)).set hj (f i)
  exact this
end
end Go.Proofs.YtfipdoofgbjbjaaGreat

/- slices.Sort's smaller functions at words: Less, reverseRange, insertionSort. No condition but sizes. -/
namespace Go.Proofs.YtfipdoofgbjbjaaGreat
open Go.RowKit
attribute [local go_sem] Oper.semAt_some
theorem nan_u64 (x : Int) (w : World) : Calls Tryz.prog 138 #[.int .u64 x] w fun e w' => e = .returned (.bool false) ∧ w' = w := by
  go_enter Tryz.func138, Tryz.ntmps138
  go_wp2
  go_ret
  exact ⟨by simp, rfl⟩
theorem less_u64 (x y : Int) (w : World) : Calls Tryz.prog 109 #[.int .u64 x, .int .u64 y] w fun e w' => e = .returned (.bool (decide (x < y))) ∧ w' = w := by
  go_enter Tryz.func109, Tryz.ntmps109
  go_wp2_with fail
  refine (nan_u64 x w).mono ?_
  rintro e w1 ⟨rfl, rfl⟩
  go_wp2_with fail
  go_ret
  exact ⟨by simp, rfl⟩
/-- what a function that sorts, or moves, hands back -/
def SoP (w : World) (b n a z : Nat) (f : Nat → Int) (P : (Nat → Int) → Prop) (x : Ending) (w' : World) : Prop :=
  ∃ g, x = .returned (.tuple #[]) ∧ RwS w' b n g ∧ Swp a z f g ∧ P g ∧ GrownP (fun i => i = b) w w'
set_option maxHeartbeats 1000000 in
theorem sreverse_any (b n c a z : Nat) (f : Nat → Int) (w : World) (h : RwS w b n f) (ha : a ≤ z) (hz : z ≤ n) (hn : n ≤ 1000000) (h0 : 0 < z) :
    Calls Tryz.prog 107 #[.slice (some ⟨b, 0, none⟩) n c, .int .i64 a, .int .i64 z] w (SoP w b n a z f (fun _ => True)) := by
  have HR0 := hid h; have HH := hid (And.intro ha (And.intro hz (And.intro hn h0)))
  clear h ha hz hn h0
  obtain ⟨z0, hz0⟩ : ∃ z0, z = z0 + 1 := ⟨z - 1, by have := HH.out; omega⟩
  have HZ := hid hz0
  have hw1 : IntKind.i64.wrap ((z : Int) - 1) = (z0 : Int) := by have := HH.out; rw [IntKind.wrap_i64]; omega
  clear hz0
  go_enter Tryz.func107, Tryz.ntmps107
  go_wp2_with fail
  clear hw1
  go_loopw [6, 7] (fun i j wr => ∃ (p q : Nat) (g : Nat → Int), i = .int .i64 p ∧ j = .int .i64 q ∧ a ≤ p ∧ p ≤ z ∧ a ≤ q + 1 ∧ q < z ∧ RwS wr b n g ∧ Swp a z f g ∧ GrownP (fun i => i = b) w wr) (fun i j _ => (intOf j - intOf i).toNat)
  case atStart => exact ⟨a, z0, f, rfl, rfl, Nat.le_refl _, HH.out.1, by have := HH.out; have := HZ.out; omega, by have := HZ.out; omega, HR0.out, .refl, .refl _ _⟩
  case round =>
    obtain ⟨p, q, g, rfl, rfl, hp1, hp2, hq1, hq2, hr, hs, hg⟩ := hrel
    have HP := hid (And.intro hp1 (And.intro hp2 (And.intro hq1 hq2))); have HR := hid hr; have HS := hid hs; have HG := hid hg
    clear hp1 hp2 hq1 hq2 hr hs hg
    by_cases hpq : p < q
    rotate_left
    ·skip
     have hd : ¬ ((p : Int) < (q : Int)) := by omega
     go_wp2_with fail
     go_end0
     exact ⟨g, rfl, HR.out, HS.out, trivial, HG.out⟩
    have hd : (p : Int) < (q : Int) := by omega
    obtain ⟨q0, hq0⟩ : ∃ q0, q = q0 + 1 := ⟨q - 1, by omega⟩
    have HQ := hid hq0
    have hw2 : IntKind.i64.wrap ((q : Int) - 1) = (q0 : Int) := by have := HP.out; have := HH.out; rw [IntKind.wrap_i64]; omega
    have hw3 : IntKind.i64.wrap ((p : Int) + 1) = ((p + 1 : Nat) : Int) := by have := HP.out; have := HH.out; rw [IntKind.wrap_i64]; omega
    have HPN := hid (show p < n ∧ q < n by have := HP.out; have := HH.out; omega)
    have hi1 : (p : Int) < (n : Int) := by have := HPN.out; omega
    have hi2 : (q : Int) < (n : Int) := by have := HPN.out; omega
    clear hq0
    go_upto_region 3 with fail
    have hf1 := HR.out.free (p) (HPN.out.1); have hf2 := HR.out.free (q) (HPN.out.2); have hc1 := HR.out.cell (p) (HPN.out.1); have hc2 := HR.out.cell (q) (HPN.out.2); have hc3 := HR.out.mid (i := p) (j := q) (HPN.out.1) (HPN.out.2)
    show Code.wp _ _ _ _ _
    go_region
    clear hf1 hf2 hc1 hc2 hc3
    have bx := (Below.refl ((wr.setCell ⟨b, p, none⟩ (.int .u64 (g q))).setCell ⟨b, q, none⟩ (.int .u64 (g p))).heap.size ((wr.setCell ⟨b, p, none⟩ (.int .u64 (g q))).setCell ⟨b, q, none⟩ (.int .u64 (g p)))).drew
    replace HR := hid ((HR.out.swap (i := p) (j := q) (HPN.out.1) (HPN.out.2)).step bx); replace HG := hid (((HG.out.sc (b := b) (o := p) rfl (.int .u64 (g (q)))).sc (b := b) (o := q) rfl (.int .u64 (g (p)))).bl bx)
    clear bx
    generalize ((wr.setCell ⟨b, p, none⟩ (.int .u64 (g q))).setCell ⟨b, q, none⟩ (.int .u64 (g p))).drew = W2 at *
    go_wp2_with fail
    refine ⟨⟨p + 1, q0, swp g p q, rfl, rfl, by have := HP.out; omega, by have := HP.out; omega, by have := HP.out; have := HQ.out; omega, by have := HP.out; have := HQ.out; omega, HR.out, HS.out.step (by have := HP.out; omega) (by have := HP.out; omega) (by have := HP.out; omega) (by have := HP.out; omega), HG.out⟩, ?_⟩
    have h1 : intOf (.int .i64 (q0 : Int)) = (q0 : Int) := rfl
    have h2 : intOf (.int .i64 ((p : Int) + 1)) = (p : Int) + 1 := rfl
    have h3 : intOf (.int .i64 (q : Int)) = (q : Int) := rfl
    have h4 : intOf (.int .i64 (p : Int)) = (p : Int) := rfl
    have := HQ.out
    rw [h1, h2, h3, h4]; omega
end Go.Proofs.YtfipdoofgbjbjaaGreat

/- slices.insertionSortOrdered at words. No condition but sizes. -/
namespace Go.Proofs.YtfipdoofgbjbjaaGreat
open Go.RowKit
attribute [local go_sem] Oper.semAt_some
theorem less_b (x y : Int) (w : World) : Calls Tryz.prog 109 #[.int .u64 x, .int .u64 y] w fun e w' => e = .returned (.bool (decide (x < y))) ∧ Below w.heap.size w w' :=
  (less_u64 x y w).mono fun _ _ h => ⟨h.1, by rw [h.2]; exact .refl _ _⟩
/-- up to p it goes up, but for q -/
def In1 (a p q : Nat) (g : Nat → Int) : Prop := ∀ i j, a ≤ i → i < j → j ≤ p → j ≠ q → g i ≤ g j
theorem In1.start {a p : Nat} {g : Nat → Int} (h : Srt a p g) : In1 a p p g := fun i j h1 h2 h3 h4 => h i j h1 h2 (by omega)
theorem In1.low {a p : Nat} {g : Nat → Int} (h : In1 a p a g) : Srt a (p + 1) g := fun i j h1 h2 h3 => h i j h1 h2 (by omega) (by omega)
theorem In1.stop {a p q : Nat} {g : Nat → Int} (h : In1 a p (q + 1) g) (hq : a ≤ q) (hp : q + 1 ≤ p) (hl : g q ≤ g (q + 1)) : Srt a (p + 1) g := fun i j h1 h2 h3 => by
  by_cases e : j = q + 1
  · subst e
    by_cases e2 : i = q
    · subst e2; exact hl
    · exact Int.le_trans (h i q h1 (by omega) (by omega) (by omega)) hl
  · exact h i j h1 h2 (by omega) e
theorem In1.next {a p q : Nat} {g : Nat → Int} (h : In1 a p (q + 1) g) (hq : a ≤ q) (hp : q + 1 ≤ p) (hl : g (q + 1) < g q) : In1 a p q (swp g (q + 1) q) := fun i j h1 h2 h3 h4 => by
  by_cases e : j = q + 1
  · subst e
    rw [swp_l]
    by_cases e2 : i = q
    · subst e2; rw [swp_r]; omega
    · rw [swp_o _ (by omega) (by omega)]; exact h i q h1 (by omega) (by omega) (by omega)
  · rw [swp_o (k := j) _ (by omega) (by omega)]
    by_cases e2 : i = q
    · subst e2; rw [swp_r]; exact h (i + 1) j (by omega) (by omega) h3 e
    · by_cases e3 : i = q + 1
      · subst e3; rw [swp_l]; exact h q j hq (by omega) h3 e
      · rw [swp_o _ (by omega) (by omega)]; exact h i j h1 h2 h3 e
set_option maxHeartbeats 2000000 in
theorem sinsert_any (b n c a z : Nat) (f : Nat → Int) (w : World) (h : RwS w b n f) (ha : a ≤ z) (hz : z ≤ n) (hn : n ≤ 1000000) :
    Calls Tryz.prog 103 #[.slice (some ⟨b, 0, none⟩) n c, .int .i64 a, .int .i64 z] w (SoP w b n a z f (Srt a z)) := by
  have HR0 := hid h; have HH := hid (And.intro ha (And.intro hz hn))
  clear h ha hz hn
  have hw1 : IntKind.i64.wrap ((a : Int) + 1) = ((a + 1 : Nat) : Int) := by have := HH.out; rw [IntKind.wrap_i64]; omega
  go_enter Tryz.func103, Tryz.ntmps103
  go_wp2_with fail
  clear hw1
  go_loopw [6] (fun i wr => ∃ (p : Nat) (g : Nat → Int), i = .int .i64 p ∧ a < p ∧ p ≤ z + 1 ∧ RwS wr b n g ∧ Swp a z f g ∧ Srt a p g ∧ GrownP (fun i => i = b) w wr) (fun i _ => z + 1 - (intOf i).toNat)
  case atStart => exact ⟨a + 1, f, rfl, by omega, by have := HH.out; omega, HR0.out, .refl, fun i j h1 h2 h3 => by omega, .refl _ _⟩
  case round =>
    obtain ⟨p, g, rfl, hp1, hp2, hr, hs, ho, hg⟩ := hrel
    have HP := hid (And.intro hp1 hp2); have HR := hid hr; have HS := hid hs; have HO := hid ho; have HG := hid hg
    clear hp1 hp2 hr hs ho hg HR0
    by_cases hpz : p < z
    rotate_left
    ·skip
     have hd : ¬ ((p : Int) < (z : Int)) := by omega
     go_wp2_with fail
     go_end0
     exact ⟨g, rfl, HR.out, HS.out, fun i j h1 h2 h3 => HO.out i j h1 h2 (by omega), HG.out⟩
    have hd : (p : Int) < (z : Int) := by omega
    have HPZ := hid hpz
    have HIN := hid (In1.start HO.out)
    go_wp2_with fail
    clear hd HO hpz
    go_loopw [7] (fun i w2 => ∃ (q : Nat) (h : Nat → Int), i = .int .i64 q ∧ a ≤ q ∧ q ≤ p ∧ RwS w2 b n h ∧ Swp a z f h ∧ In1 a p q h ∧ GrownP (fun i => i = b) w w2) (fun i _ => (intOf i).toNat)
    case atStart => exact ⟨p, g, rfl, by have := HP.out; omega, Nat.le_refl _, HR.out, HS.out, HIN.out, HG.out⟩
    case round =>
      rename World => w2
      obtain ⟨q, h, rfl, hq1, hq2, hr, hs, ho, hg⟩ := hrel
      replace HR := hid hr; replace HS := hid hs; replace HIN := hid ho; replace HG := hid hg
      have HQ := hid (And.intro hq1 hq2)
      clear hr hs ho hg
      have hw4 : IntKind.i64.wrap ((p : Int) + 1) = ((p + 1 : Nat) : Int) := by have := HH.out; have := HPZ.out; rw [IntKind.wrap_i64]; omega
      by_cases hqa : a < q
      rotate_left
      ·skip
       obtain rfl : q = a := by omega
       have hd : ¬ ((q : Int) > (q : Int)) := by omega
       have hd2 : ¬ ((q : Int) < (q : Int)) := by omega
       have HSO := hid HIN.out.low
       clear hqa hq1 hq2 HIN HQ
       go_upto_region 4 with fail
       have HB := hid (Below.refl w2.heap.size w2)
       have bx := (Below.refl w2.heap.size w2).drew
       replace HR := hid (HR.out.step bx); replace HG := hid (HG.out.step bx); replace HB := hid (below_then HB.out bx)
       clear bx
       have hszd := hid (show w2.drew.heap.size = w2.heap.size from rfl)
       refine wp_region_noPanic ?_
       refine wp_region_held_drew (S := (fun W' : World => True)) (by kernel_rfl) trivial (fun hS => ?_)
       generalize w2.drew = Wd at *
       refine tk 0 hS ?_
       refine tk 1 hS ?_
       refine tk 2 hS ?_
       refine tk 3 hS ?_
       refine tku 4 hS ?_
       refine tku 5 hS ?_
       refine tku 6 hS ?_
       refine tku 7 hS ?_
       refine tku 8 hS ?_
       refine tku 9 hS ?_
       refine tku 10 hS ?_
       refine tku 11 hS ?_
       refine tku 12 hS ?_
       refine tku 13 hS ?_
       refine tk 14 hS ?_
       refine wpAnyH_done (by kernel_rfl) ?_ _
       refine NoPanic.normal ?_
       clear hS
       go_wp2_with fail
       refine ⟨⟨p + 1, h, rfl, by have := HP.out; omega, by have := HPZ.out; omega, HR.out, HS.out, HSO.out, HG.out⟩, ?_⟩
       have h1 : intOf (.int .i64 ((p : Int) + 1)) = (p : Int) + 1 := rfl
       have h2 : intOf (.int .i64 (p : Int)) = (p : Int) := rfl
       have := HPZ.out
       rw [h1, h2]; omega
      obtain ⟨q0, hq0⟩ : ∃ q0, q = q0 + 1 := ⟨q - 1, by omega⟩
      have HQ0 := hid hq0
      have hd : (a : Int) < (q : Int) := by omega
      have hw2 : IntKind.i64.wrap ((q : Int) - 1) = (q0 : Int) := by have := HH.out; have := HPZ.out; rw [IntKind.wrap_i64]; omega
      have HQN := hid (show q < n ∧ q0 < n by have := HH.out; have := HPZ.out; omega)
      have hi1 : (q : Int) < (n : Int) := by have := HQN.out; omega
      have hi2 : (q0 : Int) < (n : Int) := by have := HQN.out; omega
      clear hqa hq1 hq2 hq0
      go_upto_region 4 with fail
      have HB := hid (Below.refl w2.heap.size w2)
      have bx := (Below.refl w2.heap.size w2).drew
      replace HR := hid (HR.out.step bx); replace HG := hid (HG.out.step bx); replace HB := hid (below_then HB.out bx)
      clear bx
      have hszd := hid (show w2.drew.heap.size = w2.heap.size from rfl)
      refine wp_region_noPanic ?_
      refine wp_region_held_drew (S := (fun W' : World => W'.cell? ⟨b, q, none⟩ = some (.int .u64 (h q)) ∧ W'.cell? ⟨b, q0, none⟩ = some (.int .u64 (h q0)))) (by kernel_rfl) ⟨(HR.out.cell q HQN.out.1), (HR.out.cell q0 HQN.out.2)⟩ (fun hS => ?_)
      generalize w2.drew = Wd at *
      refine tk 0 hS ?_
      refine tk 1 hS ?_
      refine tk 2 hS ?_
      refine tk 3 hS ?_
      refine tk 4 hS ?_
      refine tk 5 hS ?_
      refine tk 6 hS ?_
      refine tk 7 hS ?_
      refine tk 8 hS ?_
      refine tk 9 hS ?_
      refine tk 10 hS ?_
      refine tk 11 hS ?_
      refine tk 12 hS ?_
      refine rdy [13] (csy (fun K hK => ?_) AllReadyH.nil)
      go_simp
      refine (less_b (h q) (h q0) _).mono ?_
      rintro e w13 ⟨rfl, hb⟩
      have hsz0 := hid (show Wd.heap.size ≤ w13.heap.size from hb.size)
      replace HR := hid (HR.out.step hb); replace HG := hid (HG.out.step hb); replace HB := hid (below_then HB.out hb)
      clear hb
      go_wp2_with fail
      clear hS
      refine ky hK ⟨(HR.out.cell q HQN.out.1), (HR.out.cell q0 HQN.out.2)⟩ fun hS => ?_
      clear hK K
      refine tk 14 hS ?_
      refine wpAnyH_done (by kernel_rfl) ?_ _
      refine NoPanic.normal ?_
      clear hS
      by_cases hlt : h q < h q0
      rotate_left
      ·skip
       have hl : decide (h q < h q0) = false := decide_eq_false hlt
       have HSO := hid (show Srt a (p + 1) h from (show In1 a p (q0 + 1) h from HQ0.out ▸ HIN.out).stop (by have := HQ.out; have := HQ0.out; omega) (by have := HQ.out; have := HQ0.out; omega) (by rw [← HQ0.out]; omega))
       go_wp2_with fail
       refine ⟨⟨p + 1, h, rfl, by have := HP.out; omega, by have := HPZ.out; omega, HR.out, HS.out, HSO.out, HG.out⟩, ?_⟩
       have h1 : intOf (.int .i64 ((p : Int) + 1)) = (p : Int) + 1 := rfl
       have h2 : intOf (.int .i64 (p : Int)) = (p : Int) := rfl
       have := HPZ.out
       rw [h1, h2]; omega
      have hl : decide (h q < h q0) = true := decide_eq_true hlt
      have HNX := hid (show In1 a p q0 (swp h q q0) from HQ0.out ▸ (show In1 a p (q0 + 1) h from HQ0.out ▸ HIN.out).next (by have := HQ.out; have := HQ0.out; omega) (by have := HQ.out; have := HQ0.out; omega) (by rw [← HQ0.out]; exact hlt))
      go_upto_region 6 with fail
      clear hl hlt
      have hf1 := HR.out.free (q) (HQN.out.1); have hf2 := HR.out.free (q0) (HQN.out.2); have hc1 := HR.out.cell (q) (HQN.out.1); have hc2 := HR.out.cell (q0) (HQN.out.2); have hc3 := HR.out.mid (i := q) (j := q0) (HQN.out.1) (HQN.out.2)
      show Code.wp _ _ _ _ _
      go_region
      clear hf1 hf2 hc1 hc2 hc3
      have bx := (Below.refl ((w13.setCell ⟨b, q, none⟩ (.int .u64 (h q0))).setCell ⟨b, q0, none⟩ (.int .u64 (h q))).heap.size ((w13.setCell ⟨b, q, none⟩ (.int .u64 (h q0))).setCell ⟨b, q0, none⟩ (.int .u64 (h q)))).drew
      replace HR := hid ((HR.out.swap (i := q) (j := q0) (HQN.out.1) (HQN.out.2)).step bx); replace HG := hid (((HG.out.sc (b := b) (o := q) rfl (.int .u64 (h (q0)))).sc (b := b) (o := q0) rfl (.int .u64 (h (q)))).bl bx)
      clear bx
      generalize ((w13.setCell ⟨b, q, none⟩ (.int .u64 (h q0))).setCell ⟨b, q0, none⟩ (.int .u64 (h q))).drew = W6 at *
      go_wp2_with fail
      refine ⟨⟨q0, swp h q q0, rfl, by have := HQ.out; have := HQ0.out; omega, by have := HQ.out; have := HQ0.out; omega, HR.out, HS.out.step (by have := HQ.out; omega) (by have := HQ.out; have := HPZ.out; omega) (by have := HQ.out; have := HQ0.out; omega) (by have := HQ.out; have := HQ0.out; have := HPZ.out; omega), HNX.out, HG.out⟩, ?_⟩
      have h1 : intOf (.int .i64 (q0 : Int)) = (q0 : Int) := rfl
      have h2 : intOf (.int .i64 (q : Int)) = (q : Int) := rfl
      have := HQ0.out
      rw [h1, h2]; omega
end Go.Proofs.YtfipdoofgbjbjaaGreat

/- slices.siftDownOrdered, heapSortOrdered at words. No condition but sizes. -/
namespace Go.Proofs.YtfipdoofgbjbjaaGreat
open Go.RowKit
attribute [local go_sem] Oper.semAt_some
def Ch (k x : Nat) : Prop := x = 2 * k + 1 ∨ x = 2 * k + 2
/-- a heap from lo on -/
def Hp (F lo hi : Nat) (f : Nat → Int) : Prop := ∀ k x, lo ≤ k → Ch k x → x < hi → f (F + x) ≤ f (F + k)
/-- but for r -/
def Hq (F lo hi r : Nat) (f : Nat → Int) : Prop := (∀ k x, lo ≤ k → k ≠ r → Ch k x → x < hi → f (F + x) ≤ f (F + k)) ∧ ∀ k x, lo ≤ k → Ch k r → Ch r x → x < hi → f (F + x) ≤ f (F + k)
theorem Hq.start {F lo hi : Nat} {f : Nat → Int} (h : Hp F (lo + 1) hi f) : Hq F lo hi lo f :=
  ⟨fun k x h1 h2 h3 h4 => h k x (by omega) h3 h4, fun k x h1 h2 => by rcases h2 with h2 | h2 <;> omega⟩
theorem Hq.stop {F lo hi r : Nat} {f : Nat → Int} (h : Hq F lo hi r f) (hr : ∀ x, Ch r x → x < hi → f (F + x) ≤ f (F + r)) : Hp F lo hi f := fun k x h1 h2 h3 => by
  by_cases e : k = r
  · subst e; exact hr x h2 h3
  · exact h.1 k x h1 e h2 h3
theorem swpF (f : Nat → Int) (F r c x : Nat) : swp f (F + r) (F + c) (F + x) = if x = c then f (F + r) else if x = r then f (F + c) else f (F + x) := by
  unfold swp
  by_cases h1 : x = c
  · rw [if_pos h1, if_pos (by omega)]
  · rw [if_neg h1, if_neg (by omega)]
    by_cases h2 : x = r
    · rw [if_pos h2, if_pos (by omega)]
    · rw [if_neg h2, if_neg (by omega)]
theorem Hq.next {F lo hi r c : Nat} {f : Nat → Int} (h : Hq F lo hi r f) (hl : lo ≤ r) (hc : Ch r c) (hch : c < hi) (hlt : f (F + r) ≤ f (F + c)) (hs : ∀ x, Ch r x → x < hi → f (F + x) ≤ f (F + c)) : Hq F lo hi c (swp f (F + r) (F + c)) := by
  have hrc : r < c := by rcases hc with h | h <;> omega
  refine ⟨fun k x h1 h2 h3 h4 => ?_, fun k x h1 h2 h3 h4 => ?_⟩
  · rw [swpF, swpF, if_neg h2]
    by_cases e : k = r
    · subst e
      rw [if_pos rfl]
      by_cases e2 : x = c
      · rw [if_pos e2]; exact hlt
      · rw [if_neg e2, if_neg (by rcases h3 with h3 | h3 <;> omega)]; exact hs x h3 h4
    · rw [if_neg e]
      have e2 : ¬ x = c := fun e2 => by subst e2; rcases hc with hc | hc <;> rcases h3 with h3 | h3 <;> omega
      rw [if_neg e2]
      by_cases e3 : x = r
      · subst e3; rw [if_pos rfl]; exact h.2 k c h1 h3 hc hch
      · rw [if_neg e3]; exact h.1 k x h1 e h3 h4
  · have e : k = r := by rcases hc with hc | hc <;> rcases h2 with h2 | h2 <;> omega
    subst e
    have hcx : c < x := by rcases h3 with h3 | h3 <;> omega
    rw [swpF, swpF, if_neg (by omega), if_neg (by omega), if_neg (by omega), if_pos rfl]
    exact h.1 c x (by omega) (by omega) h3 h4
set_option maxHeartbeats 2000000 in
theorem ssift_any (b n c0 F lo hi : Nat) (f : Nat → Int) (w : World) (h : RwS w b n f) (hF : F + hi ≤ n) (hn : n ≤ 1000000) (hlo : lo ≤ 1000000) (hh : Hp F (lo + 1) hi f) :
    Calls Tryz.prog 133 #[.slice (some ⟨b, 0, none⟩) n c0, .int .i64 lo, .int .i64 hi, .int .i64 F] w (SoP w b n F (F + hi) f (Hp F lo hi)) := by
  have HR0 := hid h; have HH := hid (And.intro hF (And.intro hn hlo)); have HQ0 := hid (Hq.start hh)
  clear h hF hn hlo hh
  go_enter Tryz.func133, Tryz.ntmps133
  go_wp2_with fail
  go_loopw [8] (fun i wr => ∃ (r : Nat) (g : Nat → Int), i = .int .i64 r ∧ lo ≤ r ∧ r ≤ 1000000 ∧ RwS wr b n g ∧ Swp F (F + hi) f g ∧ Hq F lo hi r g ∧ GrownP (fun i => i = b) w wr) (fun i _ => 2 * hi + 1000002 - (intOf i).toNat)
  case atStart => exact ⟨lo, f, rfl, Nat.le_refl _, HH.out.2.2, HR0.out, .refl, HQ0.out, .refl _ _⟩
  case round =>
    obtain ⟨r, g, rfl, hp1, hp2, hr, hs, ho, hg⟩ := hrel
    have HP := hid (And.intro hp1 hp2); have HR := hid hr; have HS := hid hs; have HO := hid ho; have HG := hid hg
    clear hp1 hp2 hr hs ho hg HR0
    obtain ⟨r2, hr2⟩ : ∃ r2, r2 = 2 * r := ⟨_, rfl⟩
    obtain ⟨c, hc⟩ : ∃ c, c = 2 * r + 1 := ⟨_, rfl⟩
    have HC := hid (show c = 2 * r + 1 ∧ r2 = 2 * r from ⟨hc, hr2⟩)
    clear hr2 hc
    have hwm : IntKind.i64.wrap (2 * (r : Int)) = (r2 : Int) := by have := HP.out; have := HC.out; rw [IntKind.wrap_i64]; omega
    have hwc : IntKind.i64.wrap ((r2 : Int) + 1) = (c : Int) := by have := HP.out; have := HC.out; rw [IntKind.wrap_i64]; omega
    by_cases hch : c < hi
    rotate_left
    ·skip
     have hd : (hi : Int) ≤ (c : Int) := by omega
     have HST := hid (HO.out.stop (fun x h1 h2 => by have := HC.out; rcases h1 with h1 | h1 <;> omega))
     go_wp2_with fail
     go_end0
     exact ⟨g, rfl, HR.out, HS.out, HST.out, HG.out⟩
    have hd : ¬ ((hi : Int) ≤ (c : Int)) := by omega
    have HCH := hid hch
    obtain ⟨c1, hc1⟩ : ∃ c1, c1 = c + 1 := ⟨_, rfl⟩
    obtain ⟨fc, hfc⟩ : ∃ fc, fc = F + c := ⟨_, rfl⟩
    obtain ⟨fc1, hfc1⟩ : ∃ fc1, fc1 = F + c1 := ⟨_, rfl⟩
    obtain ⟨fr, hfr⟩ : ∃ fr, fr = F + r := ⟨_, rfl⟩
    have HV := hid (show c1 = c + 1 ∧ fc = F + c ∧ fc1 = F + c1 ∧ fr = F + r from ⟨hc1, hfc, hfc1, hfr⟩)
    clear hc1 hfc hfc1 hfr hch
    have HRN := hid (show fr < n ∧ fc < n by have := HH.out; have := HC.out; have := HCH.out; have := HV.out; omega)
    have hw1 : IntKind.i64.wrap ((c : Int) + 1) = (c1 : Int) := by have := HH.out; have := HCH.out; have := HV.out; rw [IntKind.wrap_i64]; omega
    have hw2 : IntKind.i64.wrap ((F : Int) + (c : Int)) = (fc : Int) := by have := HH.out; have := HCH.out; have := HV.out; rw [IntKind.wrap_i64]; omega
    have hw3 : IntKind.i64.wrap ((fc : Int) + 1) = (fc1 : Int) := by have := HH.out; have := HCH.out; have := HV.out; rw [IntKind.wrap_i64]; omega
    have hw4 : IntKind.i64.wrap ((F : Int) + (r : Int)) = (fr : Int) := by have := HH.out; have := HCH.out; have := HV.out; have := HC.out; rw [IntKind.wrap_i64]; omega
    have hw5 : IntKind.i64.wrap ((F : Int) + (c1 : Int)) = (fc1 : Int) := by have := HH.out; have := HCH.out; have := HV.out; rw [IntKind.wrap_i64]; omega
    have hi1 : (fc : Int) < (n : Int) := by have := HRN.out; omega
    have hi3 : (fr : Int) < (n : Int) := by have := HRN.out; omega
    go_upto_region 3 with fail
    clear hwm hwc hd
    have HB := hid (Below.refl wr.heap.size wr)
    by_cases hc1h : c1 < hi
    rotate_left
    ·skip
     have hd : ¬ ((c1 : Int) < (hi : Int)) := by omega
     have HX := hid (show (Ch r c ∧ c < hi) ∧ fc = F + c ∧ ∀ x, Ch r x → x < hi → g (F + x) ≤ g (F + c) from ⟨⟨.inl HC.out.1, HCH.out⟩, HV.out.2.1, fun x h1 h2 => by
       have h3 := HC.out; have h4 := HV.out
       have e : x = c := by rcases h1 with h | h <;> omega
       rw [e]; exact Int.le_refl _⟩)
     clear hc1h
     have bx := (Below.refl wr.heap.size wr).drew
     replace HR := hid (HR.out.step bx); replace HG := hid (HG.out.step bx); replace HB := hid (below_then HB.out bx)
     clear bx
     have hszd := hid (show wr.drew.heap.size = wr.heap.size from rfl)
     refine wp_region_noPanic ?_
     refine wp_region_held_drew (S := (fun W' : World => True)) (by kernel_rfl) trivial (fun hS => ?_)
     generalize wr.drew = Wd at *
     refine tk 0 hS ?_
     refine tk 1 hS ?_
     refine tk 2 hS ?_
     refine tk 3 hS ?_
     refine tk 4 hS ?_
     refine tku 5 hS ?_
     refine tku 6 hS ?_
     refine tku 7 hS ?_
     refine tku 8 hS ?_
     refine tku 9 hS ?_
     refine tku 10 hS ?_
     refine tku 11 hS ?_
     refine tku 12 hS ?_
     refine tku 13 hS ?_
     refine tku 14 hS ?_
     refine tku 15 hS ?_
     refine tku 16 hS ?_
     refine tku 17 hS ?_
     refine tku 18 hS ?_
     refine tk 19 hS ?_
     refine wpAnyH_done (by kernel_rfl) ?_ _
     refine NoPanic.normal ?_
     clear hS
     go_upto_region 5 with fail
     clear hd
     have HB3 := hid (Below.refl Wd.heap.size Wd)
     have bx := (Below.refl Wd.heap.size Wd).drew
     replace HR := hid (HR.out.step bx); replace HG := hid (HG.out.step bx); replace HB3 := hid (below_then HB3.out bx)
     clear bx
     have hszd := hid (show Wd.drew.heap.size = Wd.heap.size from rfl)
     refine wp_region_noPanic ?_
     refine wp_region_held_drew (S := (fun W' : World => W'.cell? ⟨b, fr, none⟩ = some (.int .u64 (g fr)) ∧ W'.cell? ⟨b, fc, none⟩ = some (.int .u64 (g fc)))) (by kernel_rfl) ⟨(HR.out.cell fr HRN.out.1), (HR.out.cell fc (HRN.out.2))⟩ (fun hS => ?_)
     generalize Wd.drew = Wd at *
     refine tk 0 hS ?_
     refine tk 1 hS ?_
     refine tk 2 hS ?_
     refine tk 3 hS ?_
     refine tk 4 hS ?_
     refine tk 5 hS ?_
     refine tk 6 hS ?_
     refine tk 7 hS ?_
     refine tk 8 hS ?_
     refine tk 9 hS ?_
     refine tk 10 hS ?_
     refine tk 11 hS ?_
     refine rdy [12] (csy (fun K hK => ?_) AllReadyH.nil)
     go_simp
     refine (less_b (g fr) (g fc) _).mono ?_
     rintro e w12 ⟨rfl, hb⟩
     have hsz0 := hid (show Wd.heap.size ≤ w12.heap.size from hb.size)
     replace HR := hid (HR.out.step hb); replace HG := hid (HG.out.step hb); replace HB3 := hid (below_then HB3.out hb)
     clear hb
     go_wp2_with fail
     clear hS
     refine ky hK ⟨(HR.out.cell fr HRN.out.1), (HR.out.cell fc (HRN.out.2))⟩ fun hS => ?_
     clear hK K
     refine tk 13 hS ?_
     refine wpAnyH_done (by kernel_rfl) ?_ _
     refine NoPanic.normal ?_
     clear hS
     by_cases hlt : g fr < g fc
     rotate_left
     ·skip
      have hl : decide (g fr < g fc) = false := decide_eq_false hlt
      rw [hl]
      have HST := hid (HO.out.stop (fun x h1 h2 => by have h3 := HX.out.2.2 x h1 h2; have h4 := HV.out.2.2.2; rw [← h4]; rw [HX.out.2.1] at hlt; omega))
      go_wp2_with fail
      go_end0
      exact ⟨g, rfl, HR.out, HS.out, HST.out, HG.out⟩
     have hl : decide (g fr < g fc) = true := decide_eq_true hlt
     have HLT := hid hlt
     rw [hl]
     go_upto_region 6 with fail
     clear hl hlt
     have hf1 := HR.out.free (fr) (HRN.out.1); have hf2 := HR.out.free (fc) (HRN.out.2); have hc1 := HR.out.cell (fr) (HRN.out.1); have hc2 := HR.out.cell (fc) (HRN.out.2); have hc3 := HR.out.mid (i := fr) (j := fc) (HRN.out.1) (HRN.out.2)
     show Code.wp _ _ _ _ _
     go_region
     clear hf1 hf2 hc1 hc2 hc3
     have bx := (Below.refl ((w12.setCell ⟨b, fr, none⟩ (.int .u64 (g fc))).setCell ⟨b, fc, none⟩ (.int .u64 (g fr))).heap.size ((w12.setCell ⟨b, fr, none⟩ (.int .u64 (g fc))).setCell ⟨b, fc, none⟩ (.int .u64 (g fr)))).drew
     replace HR := hid ((HR.out.swap (i := fr) (j := fc) (HRN.out.1) (HRN.out.2)).step bx); replace HG := hid (((HG.out.sc (b := b) (o := fr) rfl (.int .u64 (g (fc)))).sc (b := b) (o := fc) rfl (.int .u64 (g (fr)))).bl bx)
     clear bx
     generalize ((w12.setCell ⟨b, fr, none⟩ (.int .u64 (g fc))).setCell ⟨b, fc, none⟩ (.int .u64 (g fr))).drew = W6 at *
     go_wp2_with fail
     refine ⟨⟨c, swp g fr fc, rfl, by have h8 := HX.out.1.1; have h9 := HP.out; rcases h8 with h | h <;> omega, by have := HX.out.1.2; have := HH.out; omega, HR.out, HS.out.step (by have := HV.out; omega) (by have := HV.out; have := HX.out.1; have := HC.out; have h8 := HX.out.1.1; rcases h8 with h | h <;> omega) (by have := HX.out.2.1; omega) (by have := HX.out.2.1; have := HX.out.1.2; omega), ?_, HG.out⟩, ?_⟩
     · rw [HX.out.2.1, HV.out.2.2.2]
       exact HO.out.next (by have := HP.out; omega) HX.out.1.1 HX.out.1.2 (by have h1 := HLT.out; rw [HX.out.2.1, HV.out.2.2.2] at h1; omega) HX.out.2.2
     have h1 : intOf (.int .i64 (c : Int)) = (c : Int) := rfl
     have h2 : intOf (.int .i64 (r : Int)) = (r : Int) := rfl
     have h3 := HX.out.1.2
     have h4 : r < c := by have h8 := HX.out.1.1; rcases h8 with h | h <;> omega
     rw [h1, h2]; omega
    have hd : (c1 : Int) < (hi : Int) := by omega
    have HC1 := hid hc1h
    have HRN1 := hid (show fc1 < n by have := HH.out; have := HV.out; omega)
    have hi2 : (fc1 : Int) < (n : Int) := by have := HRN1.out; omega
    clear hc1h
    have bx := (Below.refl wr.heap.size wr).drew
    replace HR := hid (HR.out.step bx); replace HG := hid (HG.out.step bx); replace HB := hid (below_then HB.out bx)
    clear bx
    have hszd := hid (show wr.drew.heap.size = wr.heap.size from rfl)
    refine wp_region_noPanic ?_
    refine wp_region_held_drew (S := (fun W' : World => W'.cell? ⟨b, fc, none⟩ = some (.int .u64 (g fc)) ∧ W'.cell? ⟨b, fc1, none⟩ = some (.int .u64 (g fc1)))) (by kernel_rfl) ⟨(HR.out.cell fc HRN.out.2), (HR.out.cell fc1 HRN1.out)⟩ (fun hS => ?_)
    generalize wr.drew = Wd at *
    refine tk 0 hS ?_
    refine tk 1 hS ?_
    refine tk 2 hS ?_
    refine tk 3 hS ?_
    refine tk 4 hS ?_
    refine tk 5 hS ?_
    refine tk 6 hS ?_
    refine tk 7 hS ?_
    refine tk 8 hS ?_
    refine tk 9 hS ?_
    refine tk 10 hS ?_
    refine tk 11 hS ?_
    refine tk 12 hS ?_
    refine tk 13 hS ?_
    refine tk 14 hS ?_
    refine tk 15 hS ?_
    refine tk 16 hS ?_
    refine tk 17 hS ?_
    refine rdy [18] (csy (fun K hK => ?_) AllReadyH.nil)
    go_simp
    refine (less_b (g fc) (g fc1) _).mono ?_
    rintro e w18 ⟨rfl, hb⟩
    have hsz0 := hid (show Wd.heap.size ≤ w18.heap.size from hb.size)
    replace HR := hid (HR.out.step hb); replace HG := hid (HG.out.step hb); replace HB := hid (below_then HB.out hb)
    clear hb
    go_wp2_with fail
    clear hS
    refine ky hK ⟨(HR.out.cell fc HRN.out.2), (HR.out.cell fc1 HRN1.out)⟩ fun hS => ?_
    clear hK K
    refine tk 19 hS ?_
    refine wpAnyH_done (by kernel_rfl) ?_ _
    refine NoPanic.normal ?_
    clear hS
    by_cases hcc : g fc < g fc1
    rotate_left
    ·skip
     have hl : decide (g fc < g fc1) = false := decide_eq_false hcc
     have HX := hid (show (Ch r c ∧ c < hi) ∧ fc = F + c ∧ ∀ x, Ch r x → x < hi → g (F + x) ≤ g (F + c) from ⟨⟨.inl HC.out.1, HCH.out⟩, HV.out.2.1, fun x h1 h2 => by
       have h3 := HC.out; have h4 := HV.out
       rw [h4.2.1, h4.2.2.1] at hcc
       rcases h1 with h | h
       · rw [show x = c by omega]; exact Int.le_refl _
       · rw [show x = c1 by omega]; omega⟩)
     go_upto_region 5 with fail
     clear hl hcc hd
     have HB3 := hid (Below.refl w18.heap.size w18)
     have bx := (Below.refl w18.heap.size w18).drew
     replace HR := hid (HR.out.step bx); replace HG := hid (HG.out.step bx); replace HB3 := hid (below_then HB3.out bx)
     clear bx
     have hszd := hid (show w18.drew.heap.size = w18.heap.size from rfl)
     refine wp_region_noPanic ?_
     refine wp_region_held_drew (S := (fun W' : World => W'.cell? ⟨b, fr, none⟩ = some (.int .u64 (g fr)) ∧ W'.cell? ⟨b, fc, none⟩ = some (.int .u64 (g fc)))) (by kernel_rfl) ⟨(HR.out.cell fr HRN.out.1), (HR.out.cell fc (HRN.out.2))⟩ (fun hS => ?_)
     generalize w18.drew = Wd at *
     refine tk 0 hS ?_
     refine tk 1 hS ?_
     refine tk 2 hS ?_
     refine tk 3 hS ?_
     refine tk 4 hS ?_
     refine tk 5 hS ?_
     refine tk 6 hS ?_
     refine tk 7 hS ?_
     refine tk 8 hS ?_
     refine tk 9 hS ?_
     refine tk 10 hS ?_
     refine tk 11 hS ?_
     refine rdy [12] (csy (fun K hK => ?_) AllReadyH.nil)
     go_simp
     refine (less_b (g fr) (g fc) _).mono ?_
     rintro e w12 ⟨rfl, hb⟩
     have hsz0 := hid (show Wd.heap.size ≤ w12.heap.size from hb.size)
     replace HR := hid (HR.out.step hb); replace HG := hid (HG.out.step hb); replace HB3 := hid (below_then HB3.out hb)
     clear hb
     go_wp2_with fail
     clear hS
     refine ky hK ⟨(HR.out.cell fr HRN.out.1), (HR.out.cell fc (HRN.out.2))⟩ fun hS => ?_
     clear hK K
     refine tk 13 hS ?_
     refine wpAnyH_done (by kernel_rfl) ?_ _
     refine NoPanic.normal ?_
     clear hS
     by_cases hlt : g fr < g fc
     rotate_left
     ·skip
      have hl : decide (g fr < g fc) = false := decide_eq_false hlt
      rw [hl]
      have HST := hid (HO.out.stop (fun x h1 h2 => by have h3 := HX.out.2.2 x h1 h2; have h4 := HV.out.2.2.2; rw [← h4]; rw [HX.out.2.1] at hlt; omega))
      go_wp2_with fail
      go_end0
      exact ⟨g, rfl, HR.out, HS.out, HST.out, HG.out⟩
     have hl : decide (g fr < g fc) = true := decide_eq_true hlt
     have HLT := hid hlt
     rw [hl]
     go_upto_region 6 with fail
     clear hl hlt
     have hf1 := HR.out.free (fr) (HRN.out.1); have hf2 := HR.out.free (fc) (HRN.out.2); have hc1 := HR.out.cell (fr) (HRN.out.1); have hc2 := HR.out.cell (fc) (HRN.out.2); have hc3 := HR.out.mid (i := fr) (j := fc) (HRN.out.1) (HRN.out.2)
     show Code.wp _ _ _ _ _
     go_region
     clear hf1 hf2 hc1 hc2 hc3
     have bx := (Below.refl ((w12.setCell ⟨b, fr, none⟩ (.int .u64 (g fc))).setCell ⟨b, fc, none⟩ (.int .u64 (g fr))).heap.size ((w12.setCell ⟨b, fr, none⟩ (.int .u64 (g fc))).setCell ⟨b, fc, none⟩ (.int .u64 (g fr)))).drew
     replace HR := hid ((HR.out.swap (i := fr) (j := fc) (HRN.out.1) (HRN.out.2)).step bx); replace HG := hid (((HG.out.sc (b := b) (o := fr) rfl (.int .u64 (g (fc)))).sc (b := b) (o := fc) rfl (.int .u64 (g (fr)))).bl bx)
     clear bx
     generalize ((w12.setCell ⟨b, fr, none⟩ (.int .u64 (g fc))).setCell ⟨b, fc, none⟩ (.int .u64 (g fr))).drew = W6 at *
     go_wp2_with fail
     refine ⟨⟨c, swp g fr fc, rfl, by have h8 := HX.out.1.1; have h9 := HP.out; rcases h8 with h | h <;> omega, by have := HX.out.1.2; have := HH.out; omega, HR.out, HS.out.step (by have := HV.out; omega) (by have := HV.out; have := HX.out.1; have := HC.out; have h8 := HX.out.1.1; rcases h8 with h | h <;> omega) (by have := HX.out.2.1; omega) (by have := HX.out.2.1; have := HX.out.1.2; omega), ?_, HG.out⟩, ?_⟩
     · rw [HX.out.2.1, HV.out.2.2.2]
       exact HO.out.next (by have := HP.out; omega) HX.out.1.1 HX.out.1.2 (by have h1 := HLT.out; rw [HX.out.2.1, HV.out.2.2.2] at h1; omega) HX.out.2.2
     have h1 : intOf (.int .i64 (c : Int)) = (c : Int) := rfl
     have h2 : intOf (.int .i64 (r : Int)) = (r : Int) := rfl
     have h3 := HX.out.1.2
     have h4 : r < c := by have h8 := HX.out.1.1; rcases h8 with h | h <;> omega
     rw [h1, h2]; omega
    have hl : decide (g fc < g fc1) = true := decide_eq_true hcc
    have HX := hid (show (Ch r c1 ∧ c1 < hi) ∧ fc1 = F + c1 ∧ ∀ x, Ch r x → x < hi → g (F + x) ≤ g (F + c1) from ⟨⟨.inr (by have := HC.out; have := HV.out; omega), HC1.out⟩, HV.out.2.2.1, fun x h1 h2 => by
      have h3 := HC.out; have h4 := HV.out
      rw [h4.2.1, h4.2.2.1] at hcc
      rcases h1 with h | h
      · rw [show x = c by omega]; omega
      · rw [show x = c1 by omega]; exact Int.le_refl _⟩)
    go_upto_region 5 with fail
    clear hl hcc hd
    have HB3 := hid (Below.refl w18.heap.size w18)
    have bx := (Below.refl w18.heap.size w18).drew
    replace HR := hid (HR.out.step bx); replace HG := hid (HG.out.step bx); replace HB3 := hid (below_then HB3.out bx)
    clear bx
    have hszd := hid (show w18.drew.heap.size = w18.heap.size from rfl)
    refine wp_region_noPanic ?_
    refine wp_region_held_drew (S := (fun W' : World => W'.cell? ⟨b, fr, none⟩ = some (.int .u64 (g fr)) ∧ W'.cell? ⟨b, fc1, none⟩ = some (.int .u64 (g fc1)))) (by kernel_rfl) ⟨(HR.out.cell fr HRN.out.1), (HR.out.cell fc1 (HRN1.out))⟩ (fun hS => ?_)
    generalize w18.drew = Wd at *
    refine tk 0 hS ?_
    refine tk 1 hS ?_
    refine tk 2 hS ?_
    refine tk 3 hS ?_
    refine tk 4 hS ?_
    refine tk 5 hS ?_
    refine tk 6 hS ?_
    refine tk 7 hS ?_
    refine tk 8 hS ?_
    refine tk 9 hS ?_
    refine tk 10 hS ?_
    refine tk 11 hS ?_
    refine rdy [12] (csy (fun K hK => ?_) AllReadyH.nil)
    go_simp
    refine (less_b (g fr) (g fc1) _).mono ?_
    rintro e w12 ⟨rfl, hb⟩
    have hsz0 := hid (show Wd.heap.size ≤ w12.heap.size from hb.size)
    replace HR := hid (HR.out.step hb); replace HG := hid (HG.out.step hb); replace HB3 := hid (below_then HB3.out hb)
    clear hb
    go_wp2_with fail
    clear hS
    refine ky hK ⟨(HR.out.cell fr HRN.out.1), (HR.out.cell fc1 (HRN1.out))⟩ fun hS => ?_
    clear hK K
    refine tk 13 hS ?_
    refine wpAnyH_done (by kernel_rfl) ?_ _
    refine NoPanic.normal ?_
    clear hS
    by_cases hlt : g fr < g fc1
    rotate_left
    ·skip
     have hl : decide (g fr < g fc1) = false := decide_eq_false hlt
     rw [hl]
     have HST := hid (HO.out.stop (fun x h1 h2 => by have h3 := HX.out.2.2 x h1 h2; have h4 := HV.out.2.2.2; rw [← h4]; rw [HX.out.2.1] at hlt; omega))
     go_wp2_with fail
     go_end0
     exact ⟨g, rfl, HR.out, HS.out, HST.out, HG.out⟩
    have hl : decide (g fr < g fc1) = true := decide_eq_true hlt
    have HLT := hid hlt
    rw [hl]
    go_upto_region 6 with fail
    clear hl hlt
    have hf1 := HR.out.free (fr) (HRN.out.1); have hf2 := HR.out.free (fc1) (HRN1.out); have hc1 := HR.out.cell (fr) (HRN.out.1); have hc2 := HR.out.cell (fc1) (HRN1.out); have hc3 := HR.out.mid (i := fr) (j := fc1) (HRN.out.1) (HRN1.out)
    show Code.wp _ _ _ _ _
    go_region
    clear hf1 hf2 hc1 hc2 hc3
    have bx := (Below.refl ((w12.setCell ⟨b, fr, none⟩ (.int .u64 (g fc1))).setCell ⟨b, fc1, none⟩ (.int .u64 (g fr))).heap.size ((w12.setCell ⟨b, fr, none⟩ (.int .u64 (g fc1))).setCell ⟨b, fc1, none⟩ (.int .u64 (g fr)))).drew
    replace HR := hid ((HR.out.swap (i := fr) (j := fc1) (HRN.out.1) (HRN1.out)).step bx); replace HG := hid (((HG.out.sc (b := b) (o := fr) rfl (.int .u64 (g (fc1)))).sc (b := b) (o := fc1) rfl (.int .u64 (g (fr)))).bl bx)
    clear bx
    generalize ((w12.setCell ⟨b, fr, none⟩ (.int .u64 (g fc1))).setCell ⟨b, fc1, none⟩ (.int .u64 (g fr))).drew = W6 at *
    go_wp2_with fail
    refine ⟨⟨c1, swp g fr fc1, rfl, by have h8 := HX.out.1.1; have h9 := HP.out; rcases h8 with h | h <;> omega, by have := HX.out.1.2; have := HH.out; omega, HR.out, HS.out.step (by have := HV.out; omega) (by have := HV.out; have := HX.out.1; have := HC.out; have h8 := HX.out.1.1; rcases h8 with h | h <;> omega) (by have := HX.out.2.1; omega) (by have := HX.out.2.1; have := HX.out.1.2; omega), ?_, HG.out⟩, ?_⟩
    · rw [HX.out.2.1, HV.out.2.2.2]
      exact HO.out.next (by have := HP.out; omega) HX.out.1.1 HX.out.1.2 (by have h1 := HLT.out; rw [HX.out.2.1, HV.out.2.2.2] at h1; omega) HX.out.2.2
    have h1 : intOf (.int .i64 (c1 : Int)) = (c1 : Int) := rfl
    have h2 : intOf (.int .i64 (r : Int)) = (r : Int) := rfl
    have h3 := HX.out.1.2
    have h4 : r < c1 := by have h8 := HX.out.1.1; rcases h8 with h | h <;> omega
    rw [h1, h2]; omega
end Go.Proofs.YtfipdoofgbjbjaaGreat

/- slices.heapSortOrdered at words. No condition but sizes. -/
namespace Go.Proofs.YtfipdoofgbjbjaaGreat
open Go.RowKit
attribute [local go_sem] Oper.semAt_some
theorem Hp.max {F hi : Nat} {f : Nat → Int} (h : Hp F 0 hi f) : ∀ k, k < hi → f (F + k) ≤ f (F + 0) := by
  intro k
  induction k using Nat.strongRecOn with
  | _ k ih =>
    intro hk
    by_cases e : k = 0
    · subst e; exact Int.le_refl _
    · have h1 := h ((k - 1) / 2) k (Nat.zero_le _) (by unfold Ch; omega) hk
      exact Int.le_trans h1 (ih _ (by omega) (by omega))
/-- the first p are a heap, the others behind them in order -/
def Hs (F p m : Nat) (f : Nat → Int) : Prop := Hp F 0 p f ∧ Srt (F + p) (F + m) f ∧ ∀ k j, k < p → p ≤ j → j < m → f (F + k) ≤ f (F + j)
theorem Hs.start {F m : Nat} {f : Nat → Int} (h : Hp F 0 m f) : Hs F m m f := ⟨h, fun i j h1 h2 h3 => by omega, fun k j h1 h2 h3 => by omega⟩
theorem Hs.heap {F q m : Nat} {f : Nat → Int} (h : Hs F (q + 1) m f) : Hp F 1 q (swp f (F + 0) (F + q)) := fun k x h1 h2 h3 => by
  have hx : k < x := by rcases h2 with h2 | h2 <;> omega
  rw [swpF, swpF, if_neg (by omega), if_neg (by omega), if_neg (by omega), if_neg (by omega)]
  exact h.1 k x (Nat.zero_le _) h2 (by omega)
theorem Hs.next {F q m : Nat} {f g : Nat → Int} (h : Hs F (q + 1) m f) (hq : q < m) (hs : Swp F (F + q) (swp f (F + 0) (F + q)) g) (hp : Hp F 0 q g) : Hs F q m g := by
  have hout : ∀ j, q ≤ j → j < m → g (F + j) = if j = q then f (F + 0) else f (F + j) := fun j h1 h2 => by
    rw [hs.out (.inr (by omega)), swpF]
    by_cases e : j = q
    · rw [if_pos e, if_pos e]
    · rw [if_neg e, if_neg e, if_neg (by omega)]
  have hmax := h.1.max
  have hin : ∀ j, q ≤ j → j < m → ∀ k, F ≤ k → k < F + q → g k ≤ g (F + j) := fun j h1 h2 => by
    rw [hout j h1 h2]
    refine hs.all (P := fun v => v ≤ if j = q then f (F + 0) else f (F + j)) fun k h3 h4 => ?_
    obtain ⟨k', rfl⟩ : ∃ k', k = F + k' := ⟨k - F, by omega⟩
    rw [swpF, if_neg (by omega)]
    have h5 : ∀ x, x < q + 1 → f (F + x) ≤ if j = q then f (F + 0) else f (F + j) := fun x hx => by
      by_cases e : j = q
      · rw [if_pos e]; exact hmax x hx
      · rw [if_neg e]; exact h.2.2 x j hx (by omega) h2
    split
    · exact h5 q (by omega)
    · exact h5 k' (by omega)
  refine ⟨hp, fun i j h1 h2 h3 => ?_, fun k j h1 h2 h3 => hin j h2 h3 (F + k) (by omega) (by omega)⟩
  obtain ⟨i', rfl⟩ : ∃ i', i = F + i' := ⟨i - F, by omega⟩
  obtain ⟨j', rfl⟩ : ∃ j', j = F + j' := ⟨j - F, by omega⟩
  rw [hout i' (by omega) (by omega), hout j' (by omega) (by omega), if_neg (show ¬ j' = q by omega)]
  split
  · exact h.2.2 0 j' (by omega) (by omega) (by omega)
  · exact h.2.1 _ _ (by omega) (by omega) (by omega)
set_option maxHeartbeats 2000000 in
theorem sheap_any (b n c0 a z : Nat) (f : Nat → Int) (w : World) (h : RwS w b n f) (ha : a < z) (hz : z ≤ n) (hn : n ≤ 1000000) :
    Calls Tryz.prog 104 #[.slice (some ⟨b, 0, none⟩) n c0, .int .i64 a, .int .i64 z] w (SoP w b n a z f (Srt a z)) := by
  have HR0 := hid h
  obtain ⟨m, hm⟩ : ∃ m, m = z - a := ⟨_, rfl⟩
  obtain ⟨m1, hm1⟩ : ∃ m1, m1 = m - 1 := ⟨_, rfl⟩
  obtain ⟨p0, hp0⟩ : ∃ p0, p0 = m1 / 2 := ⟨_, rfl⟩
  have HH := hid (show a < z ∧ z ≤ n ∧ n ≤ 1000000 ∧ a + m = z ∧ m1 + 1 = m from ⟨ha, hz, hn, by omega, by omega⟩)
  have HP0 := hid (show p0 = m1 / 2 from hp0)
  have hw1 : IntKind.i64.wrap ((z : Int) - (a : Int)) = (m : Int) := by rw [IntKind.wrap_i64]; omega
  have hw2 : IntKind.i64.wrap ((m : Int) - 1) = (m1 : Int) := by rw [IntKind.wrap_i64]; omega
  have hw3 : wrap64 ((m1 : Int) / 2) = (p0 : Int) := by unfold wrap64; omega
  clear h ha hz hn hm hm1 hp0
  go_enter Tryz.func104, Tryz.ntmps104
  go_wp2_with fail
  simp only [hw3]
  clear hw3
  go_loopw [9] (fun i wr => ∃ (x : Int) (p : Nat) (g : Nat → Int), i = .int .i64 x ∧ x = (p : Int) - 1 ∧ p ≤ n ∧ RwS wr b n g ∧ Swp a z f g ∧ Hp a p m g ∧ GrownP (fun i => i = b) w wr) (fun i _ => (intOf i + 1).toNat)
  case atStart => exact ⟨p0, p0 + 1, f, rfl, by omega, by have := HP0.out; have := HH.out; omega, HR0.out, .refl, fun k x h1 h2 h3 => by have h4 := HP0.out; have h5 := HH.out; rcases h2 with h2 | h2 <;> omega, .refl _ _⟩
  case round =>
    obtain ⟨x, p, g, rfl, hx, hpn, hr, hs, ho, hg⟩ := hrel
    have HX := hid (And.intro hx hpn); have HR := hid hr; have HS := hid hs; have HO := hid ho; have HG := hid hg
    clear hpn hr hs ho hg HR0
    by_cases hp : p = 0
    rotate_left
    ·skip
     obtain ⟨q, rfl⟩ : ∃ q, p = q + 1 := ⟨p - 1, by omega⟩
     obtain rfl : x = (q : Int) := by omega
     have hd : (0 : Int) ≤ (q : Int) := by omega
     have hw4 : IntKind.i64.wrap ((q : Int) - 1) = (q : Int) - 1 := by have := HX.out; have := HH.out; rw [IntKind.wrap_i64]; omega
     clear hp hx
     go_wp2_with fail
     refine (ssift_any b n c0 a q m g wr HR.out (by have := HH.out; omega) HH.out.2.2.1 (by have := HX.out; have := HH.out; omega) HO.out).mono ?_
     rintro e w1 ⟨g1, rfl, hr, hs, ho, hg⟩
     have HR1 := hid hr; have HS1 := hid (HS.out.trans (show Swp a z g g1 from (by have := HH.out.2.2.2.1; rw [← this]; exact hs))); have HO1 := hid ho; have HG1 := hid (HG.out.trans hg)
     clear hr hs ho hg hd
     go_wp2_with fail
     refine ⟨⟨(q : Int) - 1, q, g1, rfl, rfl, by have := HX.out; omega, HR1.out, HS1.out, HO1.out, HG1.out⟩, ?_⟩
     have h1 : intOf (.int .i64 ((q : Int) - 1)) = (q : Int) - 1 := rfl
     have h2 : intOf (.int .i64 (q : Int)) = (q : Int) := rfl
     rw [h1, h2]; omega
    subst hp
    have hd : ¬ ((0 : Int) ≤ x) := by omega
    have HHS := hid (Hs.start HO.out)
    have HMN := hid (show m ≤ n by have := HH.out; omega)
    clear hx HO
    go_wp2_with fail
    go_loopw [10] (fun i w2 => ∃ (x : Int) (p : Nat) (g : Nat → Int), i = .int .i64 x ∧ x = (p : Int) - 1 ∧ p ≤ m ∧ RwS w2 b n g ∧ Swp a z f g ∧ Hs a p m g ∧ GrownP (fun i => i = b) w w2) (fun i _ => (intOf i + 1).toNat)
    case atStart => exact ⟨m1, m, g, rfl, by have := HH.out; omega, Nat.le_refl _, HR.out, HS.out, HHS.out, HG.out⟩
    case round =>
      rename World => w2
      obtain ⟨x, p, g, rfl, hx, hpn, hr, hs, ho, hg⟩ := hrel
      replace HX := hid (And.intro hx hpn); replace HR := hid hr; replace HS := hid hs; replace HHS := hid ho; replace HG := hid hg
      clear hpn hr hs ho hg
      by_cases hp : p = 0
      ·skip
       subst hp
       have hd : ¬ ((0 : Int) ≤ x) := by omega
       clear hx
       go_wp2_with fail
       go_end0
       exact ⟨g, rfl, HR.out, HS.out, (by have h1 := HHS.out.2.1; have h2 := HH.out.2.2.2.1; rw [h2] at h1; exact h1), HG.out⟩
      obtain ⟨q, rfl⟩ : ∃ q, p = q + 1 := ⟨p - 1, by omega⟩
      obtain rfl : x = (q : Int) := by omega
      have hd : (0 : Int) ≤ (q : Int) := by omega
      have hw4 : IntKind.i64.wrap ((q : Int) - 1) = (q : Int) - 1 := by have := HX.out; have := HH.out; rw [IntKind.wrap_i64]; omega
      obtain ⟨aq, haq⟩ : ∃ aq, aq = a + q := ⟨_, rfl⟩
      have HAQ := hid haq
      have hw5 : IntKind.i64.wrap ((a : Int) + (q : Int)) = (aq : Int) := by have := HX.out; have := HH.out; rw [IntKind.wrap_i64]; omega
      have HAN := hid (show a < n ∧ aq < n ∧ q < m by have := HX.out; have := HH.out; omega)
      have hi1 : (a : Int) < (n : Int) := by have := HAN.out; omega
      have hi2 : (aq : Int) < (n : Int) := by have := HAN.out; omega
      clear hp hx haq
      go_upto_region 10 with fail
      clear hd
      have hf1 := HR.out.free (a) (HAN.out.1); have hf2 := HR.out.free (aq) (HAN.out.2.1); have hc1 := HR.out.cell (a) (HAN.out.1); have hc2 := HR.out.cell (aq) (HAN.out.2.1); have hc3 := HR.out.mid (i := a) (j := aq) (HAN.out.1) (HAN.out.2.1)
      show Code.wp _ _ _ _ _
      go_region
      clear hf1 hf2 hc1 hc2 hc3
      have bx := (Below.refl ((w2.setCell ⟨b, a, none⟩ (.int .u64 (g aq))).setCell ⟨b, aq, none⟩ (.int .u64 (g a))).heap.size ((w2.setCell ⟨b, a, none⟩ (.int .u64 (g aq))).setCell ⟨b, aq, none⟩ (.int .u64 (g a)))).drew
      replace HR := hid ((HR.out.swap (i := a) (j := aq) (HAN.out.1) (HAN.out.2.1)).step bx); replace HG := hid (((HG.out.sc (b := b) (o := a) rfl (.int .u64 (g (aq)))).sc (b := b) (o := aq) rfl (.int .u64 (g (a)))).bl bx)
      clear bx
      generalize ((w2.setCell ⟨b, a, none⟩ (.int .u64 (g aq))).setCell ⟨b, aq, none⟩ (.int .u64 (g a))).drew = W6 at *
      go_wp2_with fail
      have HSW := hid (show swp g a aq = swp g (a + 0) (a + q) by rw [HAQ.out]; rfl)
      refine (ssift_any b n c0 a 0 q (swp g a aq) W6 HR.out (by have := HAN.out; have := HAQ.out; omega) HH.out.2.2.1 (by omega) (by rw [HSW.out]; exact HHS.out.heap)).mono ?_
      rintro e w7 ⟨g1, rfl, hr, hs, ho, hg⟩
      have HR1 := hid hr; have HS1 := hid ((HS.out.step (i := a) (j := aq) (Nat.le_refl _) (by have := HH.out; omega) (by have := HAQ.out; omega) (by have := HAQ.out; have := HAN.out; have := HH.out; omega)).trans (hs.mono (Nat.le_refl _) (by have := HAN.out; have := HH.out; omega)))
      have HO1 := hid (HHS.out.next HAN.out.2.2 (by rw [HSW.out] at hs; exact hs) ho); have HG1 := hid (HG.out.trans hg)
      clear hr hs ho hg
      go_wp2_with fail
      refine ⟨⟨(q : Int) - 1, q, g1, rfl, rfl, by have := HX.out; omega, HR1.out, HS1.out, HO1.out, HG1.out⟩, ?_⟩
      have h1 : intOf (.int .i64 ((q : Int) - 1)) = (q : Int) - 1 := rfl
      have h2 : intOf (.int .i64 (q : Int)) = (q : Int) := rfl
      rw [h1, h2]; omega
end Go.Proofs.YtfipdoofgbjbjaaGreat
