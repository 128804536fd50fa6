/- Walks and plain laws for this claim, part 9. No condition but sizes. -/
import Derived.Test.YtfipdoofgbjbjaaGreatM8
import Derived.BigRegionIn
import Derived.Test.YtfipdoofgbjbjaaGreatM7
import Derived.Test.YtfipdoofgbjbjaaGreatM1
/- package rcu: the callbacks that are done, as one ranges over them. No condition but sizes. -/
namespace Go.Proofs.YtfipdoofgbjbjaaGreat
open Go.RowKit Go.Shelf
attribute [local go_sem] Oper.semAt_some
theorem rcdone_any (gc : Nat) (w : World) : Calls Tryz.prog 50 #[ptr gc] w fun e w' => e = .returned (.func (.func 87) #[] #[ptr w.heap.size]) ∧ w.alloc (.cells #[ptr gc] 72) = w' := by
  go_enter Tryz.func50, Tryz.ntmps50
  go_wp2
  go_ret
  exact ⟨rfl, rfl⟩
/-- behind j callbacks of a turn -/
def tJ (g : Gr) (qs : Qs) (ran : List Int) (k j : Nat) : Sv := ⟨g, drQ qs k j, ran ++ drR qs k j, k⟩
def RdS (l gc gb : Nat) (s : St) (g : Gr) (qs : Qs) (ran : List Int) (k j : Nat) (w : World) : Prop := Blk w gb 72 #[ptr gc] ∧ SA w l gc s (tJ g qs ran k j)
set_option maxRecDepth 100000 in
set_option maxHeartbeats 8000000 in
theorem rcdone_seq (M l gc gb : Nat) (s : St) (g : Gr) (qs : Qs) (ran : List Int) (k : Nat) (hm : 1 ≤ M) (hk : k < qs.length) (hn : qs.length ≤ 1000) (hl : (qAt qs k).1.length ≤ 16) (ho : (qAt qs k).2 ≤ 9223372036854775806) :
    ReadSeq Fence.wide M Tryz.prog 87 #[ptr gb] (fun j => #[.int .i64 j]) (drN qs k) (RdS l gc gb s g qs ran k) := by
  intro lp J Jx W hJB hRd hY hJ0
  refine callsIn_of_wp Tryz.func87 rfl trivial ?_ rfl
  simp only [Tryz.ntmps87, List.size_toArray, List.length_cons, List.length_nil, Nat.reduceAdd, Nat.reduceSub, Array.replicate_succ, Array.replicate_zero, List.push_toArray, List.append_toArray, List.nil_append, List.cons_append]
  have HJB := hid hJB; have HRD := hid hRd; have HY := hid hY; have HJ0 := hid hJ0; have HK := hid hk; have HL := hid hl; have HO := hid ho; have HN := hid hn
  have hle := hid (show drN qs k ≤ 16 from Nat.le_trans (doneN_le _ _) hl)
  clear hJB hRd hY hJ0 hl ho hn
  refine wpIn_wide.2 ?_
  go_wp2_with fail
  go_loopw [3] (fun n wr => ∃ j : Nat, j ≤ drN qs k ∧ n = .int .i64 j ∧ J j wr) (fun n _ => drN qs k - (intOf n).toNat)
  case atStart => exact ⟨0, Nat.zero_le _, rfl, HJ0.out⟩
  case round =>
    obtain ⟨j, hj, rfl, hJ⟩ := hrel
    have HJ := hid hJ
    obtain ⟨hpb, a, es, what, R, kr, hq, hca⟩ := HRD.out j wr hj hJ
    clear hJ
    have HB := hid (Below.refl wr.heap.size wr); have PB := hid hpb
    have hq : ql es = drQ qs k j := hq
    have hel : es.length = qs.length := by rw [← ql_len, hq, drQ_len]
    have hlen : a.nq = es.length := hca.qs.len.symm
    have hke : k < es.length := by omega
    have hka : k < a.nq := by omega
    have hat : qAt (drQ qs k j) k = ((es[k]?.getD zQe).l, (es[k]?.getD zQe).o) := by unfold qAt; rw [← hq, ql_at es hke]
    rw [drQ_at qs k j hk] at hat
    obtain ⟨hl1, hl2⟩ := Prod.mk.inj hat
    have hmem : es[k]?.getD zQe ∈ es := by rw [List.getElem?_eq_getElem hke]; exact List.getElem_mem _
    obtain ⟨gQ, hQ, _, _, _, _⟩ := hca.q_at hka
    obtain ⟨x, hx⟩ : ∃ x, es[k]?.getD zQe = x := ⟨_, rfl⟩
    rw [hx] at hl1 hl2 hmem
    have HX := hid hca.cx; have PC := hid hca.box; have HXX := hid hx; have HM := hid hmem; have HKA := hid hka
    have hki : (k : Int) < (a.nq : Int) := by omega
    clear hca hpb hlen hke hka hat hmem hx hel hq
    obtain ⟨A, n, kk, B, m, d, D, kd, Q, nq, kq⟩ := a
    dsimp only at hki
    obtain rfl : Q = some ⟨gQ, 0, none⟩ := hQ
    obtain ⟨now, ns, os⟩ := s
    obtain ⟨xl, xo, xA, xn, xc⟩ := x
    dsimp only at hl1 hl2
    have HL1 := hid hl1; have HL2 := hid hl2
    clear hl1 hl2
    have HJH := hid (show ∀ W2, Below wr.heap.size wr W2 → J j W2 from fun W2 hb => HJB.out j wr W2 HJ.out hb)
    clear HJ
    go_upto_region 2 with fail
    have HX0 := HX; have PB0 := PB; have PC0 := PC
    have bx := (Below.refl wr.heap.size wr).drew
    replace PB := hid (PB.out.step bx); replace HX := hid (HX.out.step bx); replace PC := hid (PC.out.step bx); replace HB := hid (below_then HB.out bx)
    clear bx
    have hszd := hid (show wr.drew.heap.size = wr.heap.size from rfl)
    refine wp_region_noPanic ?_
    refine wp_region_held_drew (S := (fun W' : World => W'.cell? ⟨gb, 0, none⟩ = some (ptr gc) ∧ W'.cell? ⟨gc, 7, none⟩ = some (.slice (some ⟨gQ, 0, none⟩) nq kq) ∧ W'.cell? ⟨gc, 8, none⟩ = some (.int .i64 k) ∧ W'.cell? ⟨gQ, k * 2, none⟩ = some (.slice xA xn xc) ∧ W'.cell? ⟨gQ, k * 2 + 1, none⟩ = some (.int .u64 xo))) (by kernel_rfl) ⟨PB.out.cells1.1, PC.out.cells11.2.2.2.2.2.2.2.1, PC.out.cells11.2.2.2.2.2.2.2.2.1, (HX.out.q0 rfl HKA.out HXX.out), (HX.out.q1 rfl HKA.out HXX.out)⟩ (fun hS => ?_)
    generalize wr.drew = Wd at *
    refine tk 0 hS ?_
    refine tk 1 hS ?_
    refine tk 2 hS ?_
    refine tk 3 hS ?_
    refine tk 4 hS ?_
    refine tk 5 hS ?_
    refine tk 6 hS ?_
    refine tk 7 hS ?_
    refine tk 8 hS ?_
    refine tk 9 hS ?_
    refine tk 10 hS ?_
    refine rdy [11] (csy (fun K hK => ?_) AllReadyH.nil)
    go_simp
    refine named_alloc ?_
    intro Wa11 hbk hb hsz
    have hsz0 := hid hsz
    have HGW := hid (show wr.heap.size ≤ Wd.heap.size by have := hszd.out; have := hsz0.out; omega)
    replace PB := hid (PB.out.step hb); replace HX := hid (HX.out.step hb); replace PC := hid (PC.out.step hb); replace HB := hid (below_then HB.out hb)
    have PZ := hid hbk
    clear hb hbk hsz
    clear hS
    refine ky hK ⟨PB.out.cells1.1, PC.out.cells11.2.2.2.2.2.2.2.1, PC.out.cells11.2.2.2.2.2.2.2.2.1, (HX.out.q0 rfl HKA.out HXX.out), (HX.out.q1 rfl HKA.out HXX.out)⟩ fun hS => ?_
    clear hK K
    refine rdy [12] (csy (fun K hK => ?_) AllReadyH.nil)
    obtain ⟨y00, y01, yf0⟩ := PZ.out.cells2
    go_simp
    clear y00 y01 yf0
    refine named_store2 PZ.out ?_
    intro Ws12 hbk hgr hsz
    have hsz1 := hid hsz
    clear hsz
    replace HB := hid (HB.out.grown hgr HB.out.size (fun r e => by cases e; exact HGW.out))
    replace PB := hid (PB0.out.step HB.out); replace PC := hid (PC0.out.step HB.out); replace HX := hid (HX0.out.step HB.out)
    replace PZ := hid hbk
    clear hbk hgr
    clear hS
    refine ky hK ⟨PB.out.cells1.1, PC.out.cells11.2.2.2.2.2.2.2.1, PC.out.cells11.2.2.2.2.2.2.2.2.1, (HX.out.q0 rfl HKA.out HXX.out), (HX.out.q1 rfl HKA.out HXX.out)⟩ fun hS => ?_
    clear hK K
    refine wpAnyH_done (by kernel_rfl) ?_ _
    refine NoPanic.normal ?_
    clear hS
    have HJ := hid (HJH.out _ HB.out)
    clear HJH PB PC PB0 PC0 HX0
    have HSM := hid (HX.out.qsm HM.out)
    clear HX HM
    by_cases hjn : j < drN qs k
    ·skip
     have hlt : j < (qAt qs k).1.length := Nat.lt_of_lt_of_le hjn (doneN_le _ _)
     have hxl : xl.length = (qAt qs k).1.length - j := by rw [← HL1.out, List.length_drop]
     have hxn : xl.length = xn := HSM.out.len
     have hper : perAt xl 0 ≤ xo := by
       have h1 := doneN_lt hjn
       rw [← HL2.out, ← HL1.out]
       unfold perAt at h1 ⊢
       rw [List.getElem?_drop, Nat.add_zero]; exact h1
     obtain ⟨b, off, rfl, _, _, hc⟩ := HSM.out.row (by omega)
     have f0 := hc 0 (by omega) 0 (by omega)
     obtain ⟨v, hv⟩ : ∃ v, v = perAt xl 0 := ⟨_, rfl⟩
     rw [← hv] at hper
     have HW1 := hid (show wrap64 ((j : Int) + 1) = (j : Int) + 1 by have := hle.out; unfold wrap64; omega)
     have HJ1 := hid (show j + 1 ≤ drN qs k from hjn)
     have HEQ := hid (show Value.int .i64 ((j : Int) + 1) = Value.int .i64 ((j + 1 : Nat) : Int) by rw [Int.natCast_succ])
     have HMS := hid (show drN qs k - (intOf (Value.int .i64 ((j : Int) + 1))).toNat < drN qs k - (intOf (Value.int .i64 (j : Int))).toNat by simp [intOf]; omega)
     have HV := hid hv
     replace f0 : Ws12.cell? ⟨b, off, none⟩ = some (.int .u64 v) := by rw [hv]; exact f0
     have hx0 : ((xn : Int) == 0) = false := by simp; omega
     have hxi : (0 : Int) < (xn : Int) := by omega
     have hxn2 : 0 < xn := by omega
     have hgt : ¬ (xo < v) := by omega
     have hyl := HY.out j Ws12.drew hjn (HJB.out j _ _ HJ.out (Below.refl _ _).drew)
     obtain ⟨fn, tmps, assign, body, hy, hR⟩ := hyl
     obtain ⟨y0, y1, yf⟩ := PZ.out.cells2
     clear hv hc hper hlt hxl hxn hjn
     go_upto_region 3 with fail
     refine (wpIn_wide (n := M)).1 ?_
     refine wpIn_region_any (by kernel_rfl) ?_
     change wpAnyIn _ _ _ _ _ _ _ _ _ (World.drew _)
     refine wpAnyIn_take (i := 0) (v := ?_) rfl rfl (by kernel_rfl) (by kernel_rfl) (by kernel_rfl) (fun _ _ _ h => h) ⟨Or.inl ⟨by rfl, ?_⟩, fun _ => rfl⟩ ?_
     rotate_left
     · intro w'; go_simp; (try with_reducible rfl)
     (try simp only [pt])
     refine wpAnyIn_ready (rs := [1]) (by kernel_rfl) (by simp) ?_
     refine AllReadyIn.cons rfl (fun K hK => ?_) ?_
     ·skip
      go_simp
      refine hK _ _ ?_
      clear hK K
      (try simp only [pt])
      refine wpAnyIn_take (i := 2) (v := ?_) rfl rfl (by kernel_rfl) (by kernel_rfl) (by kernel_rfl) (fun _ _ _ h => h) ⟨Or.inl ⟨by rfl, ?_⟩, fun _ => rfl⟩ ?_
      rotate_left
      · intro w'; go_simp; (try with_reducible rfl)
      (try simp only [pt])
      refine wpAnyIn_take (i := 3) (v := ?_) rfl rfl (by kernel_rfl) (by kernel_rfl) (by kernel_rfl) (fun _ _ _ h => h) ⟨Or.inl ⟨by rfl, ?_⟩, fun _ => rfl⟩ ?_
      rotate_left
      · intro w'; go_simp; (try with_reducible rfl)
      (try simp only [pt])
      refine wpAnyIn_take (i := 4) (v := ?_) rfl rfl (by kernel_rfl) (by kernel_rfl) (by kernel_rfl) (fun _ _ _ h => h) ⟨Or.inl ⟨by rfl, ?_⟩, fun _ => rfl⟩ ?_
      rotate_left
      · intro w'; go_simp; (try with_reducible rfl)
      (try simp only [pt])
      refine wpAnyIn_take (i := 5) (v := ?_) rfl rfl (by kernel_rfl) (by kernel_rfl) (by kernel_rfl) (fun _ _ _ h => h) ⟨Or.inl ⟨by rfl, ?_⟩, fun _ => rfl⟩ ?_
      rotate_left
      · intro w'; go_simp; (try with_reducible rfl)
      (try simp only [pt])
      refine wpAnyIn_take (i := 10) (v := ?_) rfl rfl (by kernel_rfl) (by kernel_rfl) (by kernel_rfl) (fun _ _ _ h => h) ⟨Or.inl ⟨by rfl, ?_⟩, fun _ => rfl⟩ ?_
      rotate_left
      · intro w'; go_simp; (try with_reducible rfl)
      (try simp only [pt])
      refine wpAnyIn_ready (rs := [6, 11]) (by kernel_rfl) (by simp) ?_
      refine AllReadyIn.cons rfl (fun K hK => ?_) ?_
      ·skip
       go_simp
       refine hK _ _ ?_
       clear hK K
       (try simp only [pt])
       refine wpAnyIn_take (i := 7) (v := ?_) rfl rfl (by kernel_rfl) (by kernel_rfl) (by kernel_rfl) (fun _ _ _ h => h) ⟨Or.inl ⟨by rfl, ?_⟩, fun _ => rfl⟩ ?_
       rotate_left
       · intro w'; go_simp; (try with_reducible rfl)
       (try simp only [pt])
       refine wpAnyIn_take (i := 8) (v := ?_) rfl rfl (by kernel_rfl) (by kernel_rfl) (by kernel_rfl) (fun _ _ _ h => h) ⟨Or.inl ⟨by rfl, ?_⟩, fun _ => rfl⟩ ?_
       rotate_left
       · intro w'; go_simp; (try with_reducible rfl)
       (try simp only [pt])
       refine wpAnyIn_ready (rs := [9, 11]) (by kernel_rfl) (by simp) ?_
       refine AllReadyIn.cons rfl (fun K hK => ?_) ?_
       ·skip
        go_simp
        refine hK _ _ ?_
        clear hK K
        (try simp only [pt])
        refine wpAnyIn_ready (rs := [11]) (by kernel_rfl) (by simp) ?_
        refine AllReadyIn.cons rfl (fun K hK => ?_) ?_
        ·skip
         go_simp
         refine hK _ _ ?_
         clear hK K
         (try simp only [pt])
         refine wpAnyIn_take (i := 12) (v := ?_) rfl rfl (by kernel_rfl) (by kernel_rfl) (by kernel_rfl) (fun _ _ _ h => h) ⟨Or.inl ⟨by rfl, ?_⟩, fun _ => rfl⟩ ?_
         rotate_left
         · intro w'; go_simp; (try with_reducible rfl)
         (try simp only [pt])
         refine wpAnyIn_take (i := 13) (v := ?_) rfl rfl (by kernel_rfl) (by kernel_rfl) (by kernel_rfl) (fun _ _ _ h => h) ⟨Or.inl ⟨by rfl, ?_⟩, fun _ => rfl⟩ ?_
         rotate_left
         · intro w'; go_simp; (try with_reducible rfl)
         (try simp only [pt])
         refine wpAnyIn_take (i := 14) (v := ?_) rfl rfl (by kernel_rfl) (by kernel_rfl) (by kernel_rfl) (fun _ _ _ h => h) ⟨Or.inl ⟨by rfl, ?_⟩, fun _ => rfl⟩ ?_
         rotate_left
         · intro w'; go_simp; (try with_reducible rfl)
         (try simp only [pt])
         refine wpAnyIn_take (i := 15) (v := ?_) rfl rfl (by kernel_rfl) (by kernel_rfl) (by kernel_rfl) (fun _ _ _ h => h) ⟨Or.inl ⟨by rfl, ?_⟩, fun _ => rfl⟩ ?_
         rotate_left
         · intro w'; go_simp; (try with_reducible rfl)
         (try simp only [pt])
         refine wpAnyIn_take (i := 16) (v := ?_) rfl rfl (by kernel_rfl) (by kernel_rfl) (by kernel_rfl) (fun _ _ _ h => h) ⟨Or.inl ⟨by rfl, ?_⟩, fun _ => rfl⟩ ?_
         rotate_left
         · intro w'; go_simp; (try with_reducible rfl)
         (try simp only [pt])
         refine wpAnyIn_ready (rs := [17]) (by kernel_rfl) (by simp) ?_
         refine AllReadyIn.cons rfl (fun K hK => ?_) ?_
         ·skip
          go_simp
          refine hR.mono ?_
          rintro e W3 (⟨rfl, hJ3⟩ | ⟨rfl, hJx3⟩)
          ·skip
           dsimp only
           refine hK _ _ ?_
           clear hK K
           (try simp only [pt])
           refine wpAnyIn_take (i := 18) (v := ?_) rfl rfl (by kernel_rfl) (by kernel_rfl) (by kernel_rfl) (fun _ _ _ h => h) ⟨Or.inl ⟨by rfl, ?_⟩, fun _ => rfl⟩ ?_
           rotate_left
           · intro w'; go_simp; (try with_reducible rfl)
           (try simp only [pt])
           refine wpAnyIn_take (i := 19) (v := ?_) rfl rfl (by kernel_rfl) (by kernel_rfl) (by kernel_rfl) (fun _ _ _ h => h) ⟨Or.inl ⟨by rfl, ?_⟩, fun _ => rfl⟩ ?_
           rotate_left
           · intro w'; go_simp; (try with_reducible rfl)
           (try simp only [pt])
           refine wpAnyIn_done (by kernel_rfl) ?_ _
           gi_wp2
           go_wp2_with fail
           rw [HW1.out]
           exact ⟨⟨j + 1, HJ1.out, HEQ.out, hJ3⟩, HMS.out⟩
          ·skip
           dsimp only
           refine hK _ _ ?_
           clear hK K
           (try simp only [pt])
           refine wpAnyIn_take (i := 18) (v := ?_) rfl rfl (by kernel_rfl) (by kernel_rfl) (by kernel_rfl) (fun _ _ _ h => h) ⟨Or.inl ⟨by rfl, ?_⟩, fun _ => rfl⟩ ?_
           rotate_left
           · intro w'; go_simp; (try with_reducible rfl)
           (try simp only [pt])
           refine wpAnyIn_take (i := 19) (v := ?_) rfl rfl (by kernel_rfl) (by kernel_rfl) (by kernel_rfl) (fun _ _ _ h => h) ⟨Or.inl ⟨by rfl, ?_⟩, fun _ => rfl⟩ ?_
           rotate_left
           · intro w'; go_simp; (try with_reducible rfl)
           (try simp only [pt])
           refine wpAnyIn_done (by kernel_rfl) ?_ _
           gi_wp2
           go_wp2_with fail
           refine bodyPost_ret (results_none rfl _ _ _) rfl ?_
           exact ⟨⟨_, rfl⟩, .inr ⟨_, hJx3⟩⟩
         exact AllReadyIn.nil
        exact AllReadyIn.nil
       refine AllReadyIn.cons rfl (fun K hK => ?_) ?_
       ·skip
        go_simp
        refine hK _ _ ?_
        clear hK K
        (try simp only [pt])
        refine wpAnyIn_ready (rs := [9]) (by kernel_rfl) (by simp) ?_
        refine AllReadyIn.cons rfl (fun K hK => ?_) ?_
        ·skip
         go_simp
         refine hK _ _ ?_
         clear hK K
         (try simp only [pt])
         refine wpAnyIn_take (i := 12) (v := ?_) rfl rfl (by kernel_rfl) (by kernel_rfl) (by kernel_rfl) (fun _ _ _ h => h) ⟨Or.inl ⟨by rfl, ?_⟩, fun _ => rfl⟩ ?_
         rotate_left
         · intro w'; go_simp; (try with_reducible rfl)
         (try simp only [pt])
         refine wpAnyIn_take (i := 13) (v := ?_) rfl rfl (by kernel_rfl) (by kernel_rfl) (by kernel_rfl) (fun _ _ _ h => h) ⟨Or.inl ⟨by rfl, ?_⟩, fun _ => rfl⟩ ?_
         rotate_left
         · intro w'; go_simp; (try with_reducible rfl)
         (try simp only [pt])
         refine wpAnyIn_take (i := 14) (v := ?_) rfl rfl (by kernel_rfl) (by kernel_rfl) (by kernel_rfl) (fun _ _ _ h => h) ⟨Or.inl ⟨by rfl, ?_⟩, fun _ => rfl⟩ ?_
         rotate_left
         · intro w'; go_simp; (try with_reducible rfl)
         (try simp only [pt])
         refine wpAnyIn_take (i := 15) (v := ?_) rfl rfl (by kernel_rfl) (by kernel_rfl) (by kernel_rfl) (fun _ _ _ h => h) ⟨Or.inl ⟨by rfl, ?_⟩, fun _ => rfl⟩ ?_
         rotate_left
         · intro w'; go_simp; (try with_reducible rfl)
         (try simp only [pt])
         refine wpAnyIn_take (i := 16) (v := ?_) rfl rfl (by kernel_rfl) (by kernel_rfl) (by kernel_rfl) (fun _ _ _ h => h) ⟨Or.inl ⟨by rfl, ?_⟩, fun _ => rfl⟩ ?_
         rotate_left
         · intro w'; go_simp; (try with_reducible rfl)
         (try simp only [pt])
         refine wpAnyIn_ready (rs := [17]) (by kernel_rfl) (by simp) ?_
         refine AllReadyIn.cons rfl (fun K hK => ?_) ?_
         ·skip
          go_simp
          refine hR.mono ?_
          rintro e W3 (⟨rfl, hJ3⟩ | ⟨rfl, hJx3⟩)
          ·skip
           dsimp only
           refine hK _ _ ?_
           clear hK K
           (try simp only [pt])
           refine wpAnyIn_take (i := 18) (v := ?_) rfl rfl (by kernel_rfl) (by kernel_rfl) (by kernel_rfl) (fun _ _ _ h => h) ⟨Or.inl ⟨by rfl, ?_⟩, fun _ => rfl⟩ ?_
           rotate_left
           · intro w'; go_simp; (try with_reducible rfl)
           (try simp only [pt])
           refine wpAnyIn_take (i := 19) (v := ?_) rfl rfl (by kernel_rfl) (by kernel_rfl) (by kernel_rfl) (fun _ _ _ h => h) ⟨Or.inl ⟨by rfl, ?_⟩, fun _ => rfl⟩ ?_
           rotate_left
           · intro w'; go_simp; (try with_reducible rfl)
           (try simp only [pt])
           refine wpAnyIn_done (by kernel_rfl) ?_ _
           gi_wp2
           go_wp2_with fail
           rw [HW1.out]
           exact ⟨⟨j + 1, HJ1.out, HEQ.out, hJ3⟩, HMS.out⟩
          ·skip
           dsimp only
           refine hK _ _ ?_
           clear hK K
           (try simp only [pt])
           refine wpAnyIn_take (i := 18) (v := ?_) rfl rfl (by kernel_rfl) (by kernel_rfl) (by kernel_rfl) (fun _ _ _ h => h) ⟨Or.inl ⟨by rfl, ?_⟩, fun _ => rfl⟩ ?_
           rotate_left
           · intro w'; go_simp; (try with_reducible rfl)
           (try simp only [pt])
           refine wpAnyIn_take (i := 19) (v := ?_) rfl rfl (by kernel_rfl) (by kernel_rfl) (by kernel_rfl) (fun _ _ _ h => h) ⟨Or.inl ⟨by rfl, ?_⟩, fun _ => rfl⟩ ?_
           rotate_left
           · intro w'; go_simp; (try with_reducible rfl)
           (try simp only [pt])
           refine wpAnyIn_done (by kernel_rfl) ?_ _
           gi_wp2
           go_wp2_with fail
           refine bodyPost_ret (results_none rfl _ _ _) rfl ?_
           exact ⟨⟨_, rfl⟩, .inr ⟨_, hJx3⟩⟩
         exact AllReadyIn.nil
        exact AllReadyIn.nil
       exact AllReadyIn.nil
      refine AllReadyIn.cons rfl (fun K hK => ?_) ?_
      ·skip
       go_simp
       refine hK _ _ ?_
       clear hK K
       (try simp only [pt])
       refine wpAnyIn_ready (rs := [6]) (by kernel_rfl) (by simp) ?_
       refine AllReadyIn.cons rfl (fun K hK => ?_) ?_
       ·skip
        go_simp
        refine hK _ _ ?_
        clear hK K
        (try simp only [pt])
        refine wpAnyIn_take (i := 7) (v := ?_) rfl rfl (by kernel_rfl) (by kernel_rfl) (by kernel_rfl) (fun _ _ _ h => h) ⟨Or.inl ⟨by rfl, ?_⟩, fun _ => rfl⟩ ?_
        rotate_left
        · intro w'; go_simp; (try with_reducible rfl)
        (try simp only [pt])
        refine wpAnyIn_take (i := 8) (v := ?_) rfl rfl (by kernel_rfl) (by kernel_rfl) (by kernel_rfl) (fun _ _ _ h => h) ⟨Or.inl ⟨by rfl, ?_⟩, fun _ => rfl⟩ ?_
        rotate_left
        · intro w'; go_simp; (try with_reducible rfl)
        (try simp only [pt])
        refine wpAnyIn_ready (rs := [9]) (by kernel_rfl) (by simp) ?_
        refine AllReadyIn.cons rfl (fun K hK => ?_) ?_
        ·skip
         go_simp
         refine hK _ _ ?_
         clear hK K
         (try simp only [pt])
         refine wpAnyIn_take (i := 12) (v := ?_) rfl rfl (by kernel_rfl) (by kernel_rfl) (by kernel_rfl) (fun _ _ _ h => h) ⟨Or.inl ⟨by rfl, ?_⟩, fun _ => rfl⟩ ?_
         rotate_left
         · intro w'; go_simp; (try with_reducible rfl)
         (try simp only [pt])
         refine wpAnyIn_take (i := 13) (v := ?_) rfl rfl (by kernel_rfl) (by kernel_rfl) (by kernel_rfl) (fun _ _ _ h => h) ⟨Or.inl ⟨by rfl, ?_⟩, fun _ => rfl⟩ ?_
         rotate_left
         · intro w'; go_simp; (try with_reducible rfl)
         (try simp only [pt])
         refine wpAnyIn_take (i := 14) (v := ?_) rfl rfl (by kernel_rfl) (by kernel_rfl) (by kernel_rfl) (fun _ _ _ h => h) ⟨Or.inl ⟨by rfl, ?_⟩, fun _ => rfl⟩ ?_
         rotate_left
         · intro w'; go_simp; (try with_reducible rfl)
         (try simp only [pt])
         refine wpAnyIn_take (i := 15) (v := ?_) rfl rfl (by kernel_rfl) (by kernel_rfl) (by kernel_rfl) (fun _ _ _ h => h) ⟨Or.inl ⟨by rfl, ?_⟩, fun _ => rfl⟩ ?_
         rotate_left
         · intro w'; go_simp; (try with_reducible rfl)
         (try simp only [pt])
         refine wpAnyIn_take (i := 16) (v := ?_) rfl rfl (by kernel_rfl) (by kernel_rfl) (by kernel_rfl) (fun _ _ _ h => h) ⟨Or.inl ⟨by rfl, ?_⟩, fun _ => rfl⟩ ?_
         rotate_left
         · intro w'; go_simp; (try with_reducible rfl)
         (try simp only [pt])
         refine wpAnyIn_ready (rs := [17]) (by kernel_rfl) (by simp) ?_
         refine AllReadyIn.cons rfl (fun K hK => ?_) ?_
         ·skip
          go_simp
          refine hR.mono ?_
          rintro e W3 (⟨rfl, hJ3⟩ | ⟨rfl, hJx3⟩)
          ·skip
           dsimp only
           refine hK _ _ ?_
           clear hK K
           (try simp only [pt])
           refine wpAnyIn_take (i := 18) (v := ?_) rfl rfl (by kernel_rfl) (by kernel_rfl) (by kernel_rfl) (fun _ _ _ h => h) ⟨Or.inl ⟨by rfl, ?_⟩, fun _ => rfl⟩ ?_
           rotate_left
           · intro w'; go_simp; (try with_reducible rfl)
           (try simp only [pt])
           refine wpAnyIn_take (i := 19) (v := ?_) rfl rfl (by kernel_rfl) (by kernel_rfl) (by kernel_rfl) (fun _ _ _ h => h) ⟨Or.inl ⟨by rfl, ?_⟩, fun _ => rfl⟩ ?_
           rotate_left
           · intro w'; go_simp; (try with_reducible rfl)
           (try simp only [pt])
           refine wpAnyIn_done (by kernel_rfl) ?_ _
           gi_wp2
           go_wp2_with fail
           rw [HW1.out]
           exact ⟨⟨j + 1, HJ1.out, HEQ.out, hJ3⟩, HMS.out⟩
          ·skip
           dsimp only
           refine hK _ _ ?_
           clear hK K
           (try simp only [pt])
           refine wpAnyIn_take (i := 18) (v := ?_) rfl rfl (by kernel_rfl) (by kernel_rfl) (by kernel_rfl) (fun _ _ _ h => h) ⟨Or.inl ⟨by rfl, ?_⟩, fun _ => rfl⟩ ?_
           rotate_left
           · intro w'; go_simp; (try with_reducible rfl)
           (try simp only [pt])
           refine wpAnyIn_take (i := 19) (v := ?_) rfl rfl (by kernel_rfl) (by kernel_rfl) (by kernel_rfl) (fun _ _ _ h => h) ⟨Or.inl ⟨by rfl, ?_⟩, fun _ => rfl⟩ ?_
           rotate_left
           · intro w'; go_simp; (try with_reducible rfl)
           (try simp only [pt])
           refine wpAnyIn_done (by kernel_rfl) ?_ _
           gi_wp2
           go_wp2_with fail
           refine bodyPost_ret (results_none rfl _ _ _) rfl ?_
           exact ⟨⟨_, rfl⟩, .inr ⟨_, hJx3⟩⟩
         exact AllReadyIn.nil
        exact AllReadyIn.nil
       exact AllReadyIn.nil
      exact AllReadyIn.nil
     exact AllReadyIn.nil
    ·skip
     obtain rfl : j = drN qs k := by omega
     have hst := doneN_stop (o := (qAt qs k).2) (xs := (qAt qs k).1)
     have hxl : xl.length = (qAt qs k).1.length - drN qs k := by rw [← HL1.out, List.length_drop]
     have hxn : xl.length = xn := HSM.out.len
     have hper : 0 < xn → xo < perAt xl 0 := fun h0 => by
       have h1 : drN qs k < (qAt qs k).1.length := by omega
       rw [← HL2.out, ← HL1.out]
       unfold perAt at hst ⊢
       rw [List.getElem?_drop, Nat.add_zero]
       exact Int.not_le.1 (fun h2 => hst ⟨h1, h2⟩)
     have HJD := hid (HJB.out _ _ _ HJ.out ((Below.refl _ _).drew))
     obtain ⟨y0, y1, yf⟩ := PZ.out.cells2
     by_cases hx0 : xn = 0
     ·skip
      subst hx0
      clear hst hxl hxn hper HSM hjn
      have hx1 : (((0 : Nat) : Int) == 0) = true := rfl
      go_upto_region 3 with fail
      refine (wpIn_wide (n := M)).1 ?_
      refine wpIn_region_any (by kernel_rfl) ?_
      change wpAnyIn _ _ _ _ _ _ _ _ _ (World.drew _)
      refine wpAnyIn_take (i := 0) (v := ?_) rfl rfl (by kernel_rfl) (by kernel_rfl) (by kernel_rfl) (fun _ _ _ h => h) ⟨Or.inl ⟨by rfl, ?_⟩, fun _ => rfl⟩ ?_
      rotate_left
      · intro w'; go_simp; (try with_reducible rfl)
      (try simp only [pt])
      refine wpAnyIn_ready (rs := [1]) (by kernel_rfl) (by simp) ?_
      refine AllReadyIn.cons rfl (fun K hK => ?_) ?_
      ·skip
       go_simp
       refine hK _ _ ?_
       clear hK K
       (try simp only [pt])
       refine wpAnyIn_take (i := 2) (v := ?_) rfl rfl (by kernel_rfl) (by kernel_rfl) (by kernel_rfl) (fun _ _ _ h => h) ⟨Or.inl ⟨by rfl, ?_⟩, fun _ => rfl⟩ ?_
       rotate_left
       · intro w'; go_simp; (try with_reducible rfl)
       (try simp only [pt])
       refine wpAnyIn_take (i := 3) (v := ?_) rfl rfl (by kernel_rfl) (by kernel_rfl) (by kernel_rfl) (fun _ _ _ h => h) ⟨Or.inl ⟨by rfl, ?_⟩, fun _ => rfl⟩ ?_
       rotate_left
       · intro w'; go_simp; (try with_reducible rfl)
       (try simp only [pt])
       refine wpAnyIn_take (i := 4) (v := ?_) rfl rfl (by kernel_rfl) (by kernel_rfl) (by kernel_rfl) (fun _ _ _ h => h) ⟨Or.inl ⟨by rfl, ?_⟩, fun _ => rfl⟩ ?_
       rotate_left
       · intro w'; go_simp; (try with_reducible rfl)
       (try simp only [pt])
       refine wpAnyIn_take (i := 5) (v := undef) rfl rfl (by kernel_rfl) (by kernel_rfl) (by kernel_rfl) (fun _ _ _ h => h) ⟨Or.inr ⟨by kernel_rfl, rfl⟩, fun _ => by kernel_rfl⟩ ?_
       (try simp only [pt])
       refine wpAnyIn_take (i := 6) (v := undef) rfl rfl (by kernel_rfl) (by kernel_rfl) (by kernel_rfl) (fun _ _ _ h => h) ⟨Or.inr ⟨by kernel_rfl, rfl⟩, fun _ => by kernel_rfl⟩ ?_
       (try simp only [pt])
       refine wpAnyIn_take (i := 7) (v := undef) rfl rfl (by kernel_rfl) (by kernel_rfl) (by kernel_rfl) (fun _ _ _ h => h) ⟨Or.inr ⟨by kernel_rfl, rfl⟩, fun _ => by kernel_rfl⟩ ?_
       (try simp only [pt])
       refine wpAnyIn_take (i := 8) (v := undef) rfl rfl (by kernel_rfl) (by kernel_rfl) (by kernel_rfl) (fun _ _ _ h => h) ⟨Or.inr ⟨by kernel_rfl, rfl⟩, fun _ => by kernel_rfl⟩ ?_
       (try simp only [pt])
       refine wpAnyIn_take (i := 9) (v := undef) rfl rfl (by kernel_rfl) (by kernel_rfl) (by kernel_rfl) (fun _ _ _ h => h) ⟨Or.inr ⟨by kernel_rfl, rfl⟩, fun _ => by kernel_rfl⟩ ?_
       (try simp only [pt])
       refine wpAnyIn_take (i := 10) (v := undef) rfl rfl (by kernel_rfl) (by kernel_rfl) (by kernel_rfl) (fun _ _ _ h => h) ⟨Or.inr ⟨by kernel_rfl, rfl⟩, fun _ => by kernel_rfl⟩ ?_
       (try simp only [pt])
       refine wpAnyIn_take (i := 11) (v := undef) rfl rfl (by kernel_rfl) (by kernel_rfl) (by kernel_rfl) (fun _ _ _ h => h) ⟨Or.inr ⟨by kernel_rfl, rfl⟩, fun _ => by kernel_rfl⟩ ?_
       (try simp only [pt])
       refine wpAnyIn_take (i := 12) (v := undef) rfl rfl (by kernel_rfl) (by kernel_rfl) (by kernel_rfl) (fun _ _ _ h => h) ⟨Or.inr ⟨by kernel_rfl, rfl⟩, fun _ => by kernel_rfl⟩ ?_
       (try simp only [pt])
       refine wpAnyIn_take (i := 13) (v := ?_) rfl rfl (by kernel_rfl) (by kernel_rfl) (by kernel_rfl) (fun _ _ _ h => h) ⟨Or.inl ⟨by rfl, ?_⟩, fun _ => rfl⟩ ?_
       rotate_left
       · intro w'; go_simp; (try with_reducible rfl)
       (try simp only [pt])
       refine wpAnyIn_take (i := 14) (v := ?_) rfl rfl (by kernel_rfl) (by kernel_rfl) (by kernel_rfl) (fun _ _ _ h => h) ⟨Or.inl ⟨by rfl, ?_⟩, fun _ => rfl⟩ ?_
       rotate_left
       · intro w'; go_simp; (try with_reducible rfl)
       (try simp only [pt])
       refine wpAnyIn_take (i := 15) (v := undef) rfl rfl (by kernel_rfl) (by kernel_rfl) (by kernel_rfl) (fun _ _ _ h => h) ⟨Or.inr ⟨by kernel_rfl, rfl⟩, fun _ => by kernel_rfl⟩ ?_
       (try simp only [pt])
       refine wpAnyIn_take (i := 16) (v := undef) rfl rfl (by kernel_rfl) (by kernel_rfl) (by kernel_rfl) (fun _ _ _ h => h) ⟨Or.inr ⟨by kernel_rfl, rfl⟩, fun _ => by kernel_rfl⟩ ?_
       (try simp only [pt])
       refine wpAnyIn_take (i := 17) (v := undef) rfl rfl (by kernel_rfl) (by kernel_rfl) (by kernel_rfl) (fun _ _ _ h => h) ⟨Or.inr ⟨by kernel_rfl, rfl⟩, fun _ => by kernel_rfl⟩ ?_
       (try simp only [pt])
       refine wpAnyIn_take (i := 18) (v := undef) rfl rfl (by kernel_rfl) (by kernel_rfl) (by kernel_rfl) (fun _ _ _ h => h) ⟨Or.inr ⟨by kernel_rfl, rfl⟩, fun _ => by kernel_rfl⟩ ?_
       (try simp only [pt])
       refine wpAnyIn_take (i := 19) (v := ?_) rfl rfl (by kernel_rfl) (by kernel_rfl) (by kernel_rfl) (fun _ _ _ h => h) ⟨Or.inl ⟨by rfl, ?_⟩, fun _ => rfl⟩ ?_
       rotate_left
       · intro w'; go_simp; (try with_reducible rfl)
       (try simp only [pt])
       refine wpAnyIn_done (by kernel_rfl) ?_ _
       gi_wp2
       go_wp2_with fail
       refine bodyPost_ret (results_none rfl _ _ _) rfl ?_
       exact ⟨⟨_, rfl⟩, .inl HJD.out⟩
      exact AllReadyIn.nil
     ·skip
      have hp := hper (by omega)
      obtain ⟨b, off, rfl, _, _, hc⟩ := HSM.out.row (by omega)
      have f0 := hc 0 (by omega) 0 (by omega)
      obtain ⟨v, hv⟩ : ∃ v, v = perAt xl 0 := ⟨_, rfl⟩
      rw [← hv] at hp
      replace f0 : Ws12.cell? ⟨b, off, none⟩ = some (.int .u64 v) := by rw [hv]; exact f0
      have hx1 : ((xn : Int) == 0) = false := by simp; omega
      have hxi : (0 : Int) < (xn : Int) := by omega
      have hxn2 : 0 < xn := by omega
      clear hst hxl hxn hper hv hc hjn
      go_upto_region 3 with fail
      refine (wpIn_wide (n := M)).1 ?_
      refine wpIn_region_any (by kernel_rfl) ?_
      change wpAnyIn _ _ _ _ _ _ _ _ _ (World.drew _)
      refine wpAnyIn_take (i := 0) (v := ?_) rfl rfl (by kernel_rfl) (by kernel_rfl) (by kernel_rfl) (fun _ _ _ h => h) ⟨Or.inl ⟨by rfl, ?_⟩, fun _ => rfl⟩ ?_
      rotate_left
      · intro w'; go_simp; (try with_reducible rfl)
      (try simp only [pt])
      refine wpAnyIn_ready (rs := [1]) (by kernel_rfl) (by simp) ?_
      refine AllReadyIn.cons rfl (fun K hK => ?_) ?_
      ·skip
       go_simp
       refine hK _ _ ?_
       clear hK K
       (try simp only [pt])
       refine wpAnyIn_take (i := 2) (v := ?_) rfl rfl (by kernel_rfl) (by kernel_rfl) (by kernel_rfl) (fun _ _ _ h => h) ⟨Or.inl ⟨by rfl, ?_⟩, fun _ => rfl⟩ ?_
       rotate_left
       · intro w'; go_simp; (try with_reducible rfl)
       (try simp only [pt])
       refine wpAnyIn_take (i := 3) (v := ?_) rfl rfl (by kernel_rfl) (by kernel_rfl) (by kernel_rfl) (fun _ _ _ h => h) ⟨Or.inl ⟨by rfl, ?_⟩, fun _ => rfl⟩ ?_
       rotate_left
       · intro w'; go_simp; (try with_reducible rfl)
       (try simp only [pt])
       refine wpAnyIn_take (i := 4) (v := ?_) rfl rfl (by kernel_rfl) (by kernel_rfl) (by kernel_rfl) (fun _ _ _ h => h) ⟨Or.inl ⟨by rfl, ?_⟩, fun _ => rfl⟩ ?_
       rotate_left
       · intro w'; go_simp; (try with_reducible rfl)
       (try simp only [pt])
       refine wpAnyIn_take (i := 5) (v := ?_) rfl rfl (by kernel_rfl) (by kernel_rfl) (by kernel_rfl) (fun _ _ _ h => h) ⟨Or.inl ⟨by rfl, ?_⟩, fun _ => rfl⟩ ?_
       rotate_left
       · intro w'; go_simp; (try with_reducible rfl)
       (try simp only [pt])
       refine wpAnyIn_take (i := 10) (v := ?_) rfl rfl (by kernel_rfl) (by kernel_rfl) (by kernel_rfl) (fun _ _ _ h => h) ⟨Or.inl ⟨by rfl, ?_⟩, fun _ => rfl⟩ ?_
       rotate_left
       · intro w'; go_simp; (try with_reducible rfl)
       (try simp only [pt])
       refine wpAnyIn_ready (rs := [6, 11]) (by kernel_rfl) (by simp) ?_
       refine AllReadyIn.cons rfl (fun K hK => ?_) ?_
       ·skip
        go_simp
        refine hK _ _ ?_
        clear hK K
        (try simp only [pt])
        refine wpAnyIn_take (i := 7) (v := ?_) rfl rfl (by kernel_rfl) (by kernel_rfl) (by kernel_rfl) (fun _ _ _ h => h) ⟨Or.inl ⟨by rfl, ?_⟩, fun _ => rfl⟩ ?_
        rotate_left
        · intro w'; go_simp; (try with_reducible rfl)
        (try simp only [pt])
        refine wpAnyIn_take (i := 8) (v := ?_) rfl rfl (by kernel_rfl) (by kernel_rfl) (by kernel_rfl) (fun _ _ _ h => h) ⟨Or.inl ⟨by rfl, ?_⟩, fun _ => rfl⟩ ?_
        rotate_left
        · intro w'; go_simp; (try with_reducible rfl)
        (try simp only [pt])
        refine wpAnyIn_ready (rs := [9, 11]) (by kernel_rfl) (by simp) ?_
        refine AllReadyIn.cons rfl (fun K hK => ?_) ?_
        ·skip
         go_simp
         refine hK _ _ ?_
         clear hK K
         (try simp only [pt])
         refine wpAnyIn_ready (rs := [11]) (by kernel_rfl) (by simp) ?_
         refine AllReadyIn.cons rfl (fun K hK => ?_) ?_
         ·skip
          go_simp
          refine hK _ _ ?_
          clear hK K
          (try simp only [pt])
          refine wpAnyIn_take (i := 12) (v := ?_) rfl rfl (by kernel_rfl) (by kernel_rfl) (by kernel_rfl) (fun _ _ _ h => h) ⟨Or.inl ⟨by rfl, ?_⟩, fun _ => rfl⟩ ?_
          rotate_left
          · intro w'; go_simp; (try with_reducible rfl)
          (try simp only [pt])
          refine wpAnyIn_take (i := 13) (v := ?_) rfl rfl (by kernel_rfl) (by kernel_rfl) (by kernel_rfl) (fun _ _ _ h => h) ⟨Or.inl ⟨by rfl, ?_⟩, fun _ => rfl⟩ ?_
          rotate_left
          · intro w'; go_simp; (try with_reducible rfl)
          (try simp only [pt])
          refine wpAnyIn_take (i := 14) (v := ?_) rfl rfl (by kernel_rfl) (by kernel_rfl) (by kernel_rfl) (fun _ _ _ h => h) ⟨Or.inl ⟨by rfl, ?_⟩, fun _ => rfl⟩ ?_
          rotate_left
          · intro w'; go_simp; (try with_reducible rfl)
          (try simp only [pt])
          refine wpAnyIn_take (i := 15) (v := undef) rfl rfl (by kernel_rfl) (by kernel_rfl) (by kernel_rfl) (fun _ _ _ h => h) ⟨Or.inr ⟨by kernel_rfl, rfl⟩, fun _ => by kernel_rfl⟩ ?_
          (try simp only [pt])
          refine wpAnyIn_take (i := 16) (v := undef) rfl rfl (by kernel_rfl) (by kernel_rfl) (by kernel_rfl) (fun _ _ _ h => h) ⟨Or.inr ⟨by kernel_rfl, rfl⟩, fun _ => by kernel_rfl⟩ ?_
          (try simp only [pt])
          refine wpAnyIn_take (i := 17) (v := undef) rfl rfl (by kernel_rfl) (by kernel_rfl) (by kernel_rfl) (fun _ _ _ h => h) ⟨Or.inr ⟨by kernel_rfl, rfl⟩, fun _ => by kernel_rfl⟩ ?_
          (try simp only [pt])
          refine wpAnyIn_take (i := 18) (v := undef) rfl rfl (by kernel_rfl) (by kernel_rfl) (by kernel_rfl) (fun _ _ _ h => h) ⟨Or.inr ⟨by kernel_rfl, rfl⟩, fun _ => by kernel_rfl⟩ ?_
          (try simp only [pt])
          refine wpAnyIn_take (i := 19) (v := ?_) rfl rfl (by kernel_rfl) (by kernel_rfl) (by kernel_rfl) (fun _ _ _ h => h) ⟨Or.inl ⟨by rfl, ?_⟩, fun _ => rfl⟩ ?_
          rotate_left
          · intro w'; go_simp; (try with_reducible rfl)
          (try simp only [pt])
          refine wpAnyIn_done (by kernel_rfl) ?_ _
          gi_wp2
          go_wp2_with fail
          refine bodyPost_ret (results_none rfl _ _ _) rfl ?_
          exact ⟨⟨_, rfl⟩, .inl HJD.out⟩
         exact AllReadyIn.nil
        refine AllReadyIn.cons rfl (fun K hK => ?_) ?_
        ·skip
         go_simp
         refine hK _ _ ?_
         clear hK K
         (try simp only [pt])
         refine wpAnyIn_ready (rs := [9]) (by kernel_rfl) (by simp) ?_
         refine AllReadyIn.cons rfl (fun K hK => ?_) ?_
         ·skip
          go_simp
          refine hK _ _ ?_
          clear hK K
          (try simp only [pt])
          refine wpAnyIn_take (i := 12) (v := ?_) rfl rfl (by kernel_rfl) (by kernel_rfl) (by kernel_rfl) (fun _ _ _ h => h) ⟨Or.inl ⟨by rfl, ?_⟩, fun _ => rfl⟩ ?_
          rotate_left
          · intro w'; go_simp; (try with_reducible rfl)
          (try simp only [pt])
          refine wpAnyIn_take (i := 13) (v := ?_) rfl rfl (by kernel_rfl) (by kernel_rfl) (by kernel_rfl) (fun _ _ _ h => h) ⟨Or.inl ⟨by rfl, ?_⟩, fun _ => rfl⟩ ?_
          rotate_left
          · intro w'; go_simp; (try with_reducible rfl)
          (try simp only [pt])
          refine wpAnyIn_take (i := 14) (v := ?_) rfl rfl (by kernel_rfl) (by kernel_rfl) (by kernel_rfl) (fun _ _ _ h => h) ⟨Or.inl ⟨by rfl, ?_⟩, fun _ => rfl⟩ ?_
          rotate_left
          · intro w'; go_simp; (try with_reducible rfl)
          (try simp only [pt])
          refine wpAnyIn_take (i := 15) (v := undef) rfl rfl (by kernel_rfl) (by kernel_rfl) (by kernel_rfl) (fun _ _ _ h => h) ⟨Or.inr ⟨by kernel_rfl, rfl⟩, fun _ => by kernel_rfl⟩ ?_
          (try simp only [pt])
          refine wpAnyIn_take (i := 16) (v := undef) rfl rfl (by kernel_rfl) (by kernel_rfl) (by kernel_rfl) (fun _ _ _ h => h) ⟨Or.inr ⟨by kernel_rfl, rfl⟩, fun _ => by kernel_rfl⟩ ?_
          (try simp only [pt])
          refine wpAnyIn_take (i := 17) (v := undef) rfl rfl (by kernel_rfl) (by kernel_rfl) (by kernel_rfl) (fun _ _ _ h => h) ⟨Or.inr ⟨by kernel_rfl, rfl⟩, fun _ => by kernel_rfl⟩ ?_
          (try simp only [pt])
          refine wpAnyIn_take (i := 18) (v := undef) rfl rfl (by kernel_rfl) (by kernel_rfl) (by kernel_rfl) (fun _ _ _ h => h) ⟨Or.inr ⟨by kernel_rfl, rfl⟩, fun _ => by kernel_rfl⟩ ?_
          (try simp only [pt])
          refine wpAnyIn_take (i := 19) (v := ?_) rfl rfl (by kernel_rfl) (by kernel_rfl) (by kernel_rfl) (fun _ _ _ h => h) ⟨Or.inl ⟨by rfl, ?_⟩, fun _ => rfl⟩ ?_
          rotate_left
          · intro w'; go_simp; (try with_reducible rfl)
          (try simp only [pt])
          refine wpAnyIn_done (by kernel_rfl) ?_ _
          gi_wp2
          go_wp2_with fail
          refine bodyPost_ret (results_none rfl _ _ _) rfl ?_
          exact ⟨⟨_, rfl⟩, .inl HJD.out⟩
         exact AllReadyIn.nil
        exact AllReadyIn.nil
       refine AllReadyIn.cons rfl (fun K hK => ?_) ?_
       ·skip
        go_simp
        refine hK _ _ ?_
        clear hK K
        (try simp only [pt])
        refine wpAnyIn_ready (rs := [6]) (by kernel_rfl) (by simp) ?_
        refine AllReadyIn.cons rfl (fun K hK => ?_) ?_
        ·skip
         go_simp
         refine hK _ _ ?_
         clear hK K
         (try simp only [pt])
         refine wpAnyIn_take (i := 7) (v := ?_) rfl rfl (by kernel_rfl) (by kernel_rfl) (by kernel_rfl) (fun _ _ _ h => h) ⟨Or.inl ⟨by rfl, ?_⟩, fun _ => rfl⟩ ?_
         rotate_left
         · intro w'; go_simp; (try with_reducible rfl)
         (try simp only [pt])
         refine wpAnyIn_take (i := 8) (v := ?_) rfl rfl (by kernel_rfl) (by kernel_rfl) (by kernel_rfl) (fun _ _ _ h => h) ⟨Or.inl ⟨by rfl, ?_⟩, fun _ => rfl⟩ ?_
         rotate_left
         · intro w'; go_simp; (try with_reducible rfl)
         (try simp only [pt])
         refine wpAnyIn_ready (rs := [9]) (by kernel_rfl) (by simp) ?_
         refine AllReadyIn.cons rfl (fun K hK => ?_) ?_
         ·skip
          go_simp
          refine hK _ _ ?_
          clear hK K
          (try simp only [pt])
          refine wpAnyIn_take (i := 12) (v := ?_) rfl rfl (by kernel_rfl) (by kernel_rfl) (by kernel_rfl) (fun _ _ _ h => h) ⟨Or.inl ⟨by rfl, ?_⟩, fun _ => rfl⟩ ?_
          rotate_left
          · intro w'; go_simp; (try with_reducible rfl)
          (try simp only [pt])
          refine wpAnyIn_take (i := 13) (v := ?_) rfl rfl (by kernel_rfl) (by kernel_rfl) (by kernel_rfl) (fun _ _ _ h => h) ⟨Or.inl ⟨by rfl, ?_⟩, fun _ => rfl⟩ ?_
          rotate_left
          · intro w'; go_simp; (try with_reducible rfl)
          (try simp only [pt])
          refine wpAnyIn_take (i := 14) (v := ?_) rfl rfl (by kernel_rfl) (by kernel_rfl) (by kernel_rfl) (fun _ _ _ h => h) ⟨Or.inl ⟨by rfl, ?_⟩, fun _ => rfl⟩ ?_
          rotate_left
          · intro w'; go_simp; (try with_reducible rfl)
          (try simp only [pt])
          refine wpAnyIn_take (i := 15) (v := undef) rfl rfl (by kernel_rfl) (by kernel_rfl) (by kernel_rfl) (fun _ _ _ h => h) ⟨Or.inr ⟨by kernel_rfl, rfl⟩, fun _ => by kernel_rfl⟩ ?_
          (try simp only [pt])
          refine wpAnyIn_take (i := 16) (v := undef) rfl rfl (by kernel_rfl) (by kernel_rfl) (by kernel_rfl) (fun _ _ _ h => h) ⟨Or.inr ⟨by kernel_rfl, rfl⟩, fun _ => by kernel_rfl⟩ ?_
          (try simp only [pt])
          refine wpAnyIn_take (i := 17) (v := undef) rfl rfl (by kernel_rfl) (by kernel_rfl) (by kernel_rfl) (fun _ _ _ h => h) ⟨Or.inr ⟨by kernel_rfl, rfl⟩, fun _ => by kernel_rfl⟩ ?_
          (try simp only [pt])
          refine wpAnyIn_take (i := 18) (v := undef) rfl rfl (by kernel_rfl) (by kernel_rfl) (by kernel_rfl) (fun _ _ _ h => h) ⟨Or.inr ⟨by kernel_rfl, rfl⟩, fun _ => by kernel_rfl⟩ ?_
          (try simp only [pt])
          refine wpAnyIn_take (i := 19) (v := ?_) rfl rfl (by kernel_rfl) (by kernel_rfl) (by kernel_rfl) (fun _ _ _ h => h) ⟨Or.inl ⟨by rfl, ?_⟩, fun _ => rfl⟩ ?_
          rotate_left
          · intro w'; go_simp; (try with_reducible rfl)
          (try simp only [pt])
          refine wpAnyIn_done (by kernel_rfl) ?_ _
          gi_wp2
          go_wp2_with fail
          refine bodyPost_ret (results_none rfl _ _ _) rfl ?_
          exact ⟨⟨_, rfl⟩, .inl HJD.out⟩
         exact AllReadyIn.nil
        exact AllReadyIn.nil
       exact AllReadyIn.nil
      exact AllReadyIn.nil
end Go.Proofs.YtfipdoofgbjbjaaGreat

/- package rcu: Settle. No condition but sizes, and that numbers are of their kinds. -/
namespace Go.Proofs.YtfipdoofgbjbjaaGreat
open Go.RowKit Go.Shelf
attribute [local go_sem] Oper.semAt_some
theorem SvOk.run {s : St} {t : Sv} (h : SvOk s t) (j : Nat) : RcGood s (gPick t.g t.k true) (drQ (pkQ t) t.k j) := good_drain (good_pick h) _ _ (by rw [pk_len]; exact h.2.2)
theorem s_is {w w' : World} {l gc : Nat} {s : St} {t : Sv} (h : SA w l gc s t) (k' : Nat) (hg : w.grownBy w' (some gc)) (hb : ∀ (s : St) (g : Gr) (a : Ra) (is what : Int) (R : Option Addr) (nr kr : Nat), Blk w gc 78 (ccells s g a is what R nr kr) → Blk w' gc 78 (ccells s g a (k' : Int) what R nr kr)) : SA w' l gc s ⟨t.g, t.qs, t.ran, k'⟩ := by
  obtain ⟨a, es, what, R, kr, h1, h2⟩ := h
  exact ⟨a, es, what, R, kr, h1, (h2.cx.boxed h2.box hg).ca (hb _ _ _ _ _ _ _ _ h2.box)⟩
theorem tJ_zero (g : Gr) (qs : Qs) (ran : List Int) (k : Nat) (hk : k < qs.length) : tJ g qs ran k 0 = ⟨g, qs, ran, k⟩ := by
  have h1 : drQ qs k 0 = qs := by
    unfold drQ qAt
    rw [List.drop_zero, List.getElem?_eq_getElem hk]
    exact List.set_getElem_self hk
  have h2 : drR qs k 0 = [] := by unfold drR; rw [List.take_zero]; rfl
  unfold tJ
  rw [h1, h2, List.append_nil]
theorem tJ_succ (g : Gr) (qs : Qs) (ran : List Int) (k j : Nat) (hk : k < qs.length) : (⟨g, drQ (drQ qs k j) k 1, (ran ++ drR qs k j) ++ drR (drQ qs k j) k 1, k⟩ : Sv) = tJ g qs ran k (j + 1) := by
  unfold tJ
  rw [drQ_drQ qs k j 1 hk, List.append_assoc, drR_drQ qs k j 1 hk]
/-- how many there are in all -/
theorem ran_count {s : St} {t : Sv} (h : SvOk s t) (j : Nat) : (t.ran ++ drR (pkQ t) t.k j).length + wN (drQ (pkQ t) t.k j) = t.ran.length + wN t.qs := by
  have h1 := (wAll_drain (pkQ t) t.k j (by rw [pk_len]; exact h.2.2)).length_eq
  rw [List.length_append, wAll_len, wAll_len] at h1
  have h2 := congrArg List.length (wAll_overs t.g.dn (gPick t.g t.k true).dn t.qs)
  rw [wAll_len, wAll_len] at h2
  have h3 : wN (pkQ t) = wN t.qs := h2
  rw [List.length_append]; omega
/-- what holds at the label -/
def LbJ (w : World) (l gc gb : Nat) (s : St) (t0 : Sv) (t : Sv) (bs : List Nat) (W : World) : Prop :=
  SvOk s t ∧ SA W l gc s t ∧ setF s t = setF s t0 ∧ Blk W gb 72 #[ptr gc] ∧ Marks l W bs ∧ GrownP (fun i => l ≤ i) w W ∧ t.ran.length + wN t.qs ≤ 8000
def StJ (w : World) (l gc gb : Nat) (s : St) (t0 : Sv) (t : Sv) (a : Act) (W : World) : Prop :=
  ∃ (bs : List Nat) (u2 u3 u4 u5 u6 u7 u8 u9 u10 u11 u12 u13 u14 u15 u16 u17 u18 u19 u20 u21 u22 u23 u24 u25 u26 u27 u28 u29 u30 u31 u32 u33 u34 u35 : Value), a = { tmps := #[ptr gc, ptr gb, u2, u3, u4, u5, u6, u7, u8, u9, u10, u11, u12, u13, u14, u15, u16, u17, u18, u19, u20, u21, u22, u23, u24, u25, u26, u27, u28, u29, u30, u31, u32, u33, u34, u35], defers := bs.map markD } ∧ LbJ w l gc gb s t0 t bs W
set_option maxRecDepth 100000 in
set_option maxHeartbeats 8000000 in
theorem rsettle1_in (l gc : Nat) (s : St) (g : Gr) (es : List Qe) (a : Ra) (w : World) (h : CA w l gc s g es 0 0 [] a none 0 0) (hg : RcGood s g (ql es)) (hq : quietB s = true) :
    CallsIn Fence.wide 5 Tryz.prog 45 #[ptr gc] w fun x w' => x = .returned (.tuple #[]) ∧ GrownP (fun i => l ≤ i) w w' ∧ SA w' l gc s (setF s ⟨g, ql es, [], 0⟩) := by
  obtain ⟨t0, ht0⟩ : ∃ t0 : Sv, t0 = ⟨g, ql es, [], 0⟩ := ⟨_, rfl⟩
  have hlen := hg.2.1
  have h16 : wN (ql es) ≤ 8000 := by
    have h1 := wN_le (es := es) (fun x hx => by have := (hg.2.2 _ (ql_mem hx)).1.2.1; dsimp only at this; omega) es.length
    rw [List.take_length] at h1
    have h2 := hg.1.2.1.2.1
    rw [ql_len] at hlen
    omega
  have HOK := hid (show SvOk s t0 by rw [ht0]; exact ⟨hg, hq, by have := hg.1.2.1.1; dsimp only; omega⟩)
  have HS := hid (show SA w l gc s t0 by rw [ht0]; exact ⟨a, es, 0, none, 0, rfl, h⟩)
  have HR := hid (h.rcrg hg); have HQ := hid hq; have HB := hid (Below.refl w.heap.size w); have HC := hid h; have HLW := hid h.low; have H16 := hid (show t0.ran.length + wN t0.qs ≤ 8000 by rw [ht0]; dsimp only; simpa using h16)
  rw [← ht0]
  clear h hg hq hlen h16 ht0
  refine callsIn_of_wp_marks Tryz.func45 rfl trivial ?_ rfl
  simp only [Tryz.ntmps45, List.size_toArray, List.length_cons, List.length_nil, Nat.reduceAdd, Nat.reduceSub, Array.replicate_succ, Array.replicate_zero, List.push_toArray, List.append_toArray, List.nil_append, List.cons_append]
  refine wpIn_wide.2 ?_
  have bx := below_box w (.cells #[ptr gc] 72)
  replace HS := hid (HS.out.step bx); replace HR := hid (HR.out.step bx); replace HC := hid (HC.out.step bx); replace HB := hid (below_then HB.out bx)
  clear bx
  have PB := hid (Blk.new w 72 #[ptr gc])
  obtain ⟨y00, yf0⟩ := PB.out.cells1
  obtain ⟨y0, y1, y2, y3, y4, y5, y6, y7, y8, y9, y10, yf⟩ := HC.out.box.cells11
  go_wp2_with fail
  generalize w.alloc (.cells #[ptr gc] 72) = W0 at *
  refine wp_scope_label_t 0 (StJ w l gc w.heap.size s t0) mu rfl (fun hlabel => ?_) ?_
  ·skip
   go_wp2_with fail
   clear y0 y1 y2 y3 y4 y5 y6 y7 y8 y9 y10 yf y00 yf0
   refine (rquiet_any s g es a _ HR.out).mono ?_
   rintro e w1 ⟨rfl, hb⟩
   replace HS := hid (HS.out.step hb); replace HR := hid (HR.out.step hb); replace HC := hid (HC.out.step hb); replace PB := hid (PB.out.step hb); replace HB := hid (below_then HB.out hb)
   clear hb
   rw [HQ.out]
   go_wp2_with fail
   refine (rneed_yes 241 _).mono ?_
   rintro x v1 ⟨rfl, rfl⟩
   go_wp2_with fail
   have hJ := hid (show LbJ w l gc w.heap.size s t0 t0 [] v1 from ⟨HOK.out, HS.out, rfl, PB.out, Marks.nil _ _, .ofBelow HB.out, H16.out⟩)
   rename Act → World → Prop => K9
   rename ∀ (a : Act) (w : World), Code.wp Tryz.prog _ _ a w → K9 a w => hK9
   refine wp_label (hK9 _ _ (hlabel.out t0 _ _ ?_))
   exact ⟨[], _, _, _, _, _, _, _, _, _, _, _, _, _, _, _, _, _, _, _, _, _, _, _, _, _, _, _, _, _, _, _, _, _, _, rfl, hJ.out⟩
  rintro t ac W9 hJ
  obtain ⟨bs, hJ⟩ := hJ
  obtain ⟨u2, hJ⟩ := hJ
  obtain ⟨u3, hJ⟩ := hJ
  obtain ⟨u4, hJ⟩ := hJ
  obtain ⟨u5, hJ⟩ := hJ
  obtain ⟨u6, hJ⟩ := hJ
  obtain ⟨u7, hJ⟩ := hJ
  obtain ⟨u8, hJ⟩ := hJ
  obtain ⟨u9, hJ⟩ := hJ
  obtain ⟨u10, hJ⟩ := hJ
  obtain ⟨u11, hJ⟩ := hJ
  obtain ⟨u12, hJ⟩ := hJ
  obtain ⟨u13, hJ⟩ := hJ
  obtain ⟨u14, hJ⟩ := hJ
  obtain ⟨u15, hJ⟩ := hJ
  obtain ⟨u16, hJ⟩ := hJ
  obtain ⟨u17, hJ⟩ := hJ
  obtain ⟨u18, hJ⟩ := hJ
  obtain ⟨u19, hJ⟩ := hJ
  obtain ⟨u20, hJ⟩ := hJ
  obtain ⟨u21, hJ⟩ := hJ
  obtain ⟨u22, hJ⟩ := hJ
  obtain ⟨u23, hJ⟩ := hJ
  obtain ⟨u24, hJ⟩ := hJ
  obtain ⟨u25, hJ⟩ := hJ
  obtain ⟨u26, hJ⟩ := hJ
  obtain ⟨u27, hJ⟩ := hJ
  obtain ⟨u28, hJ⟩ := hJ
  obtain ⟨u29, hJ⟩ := hJ
  obtain ⟨u30, hJ⟩ := hJ
  obtain ⟨u31, hJ⟩ := hJ
  obtain ⟨u32, hJ⟩ := hJ
  obtain ⟨u33, hJ⟩ := hJ
  obtain ⟨u34, hJ⟩ := hJ
  obtain ⟨u35, hJ⟩ := hJ
  obtain ⟨rfl, h1, h2, h3, h4, h5, h6, h7⟩ := hJ
  clear HOK HS HR HB HC PB H16 y0 y1 y2 y3 y4 y5 y6 y7 y8 y9 y10 yf y00 yf0
  have HOK := hid h1; have HS := hid h2; have HF := hid h3; have PB := hid h4; have HM := hid h5; have HG := hid h6; have HN := hid h7
  clear h1 h2 h3 h4 h5 h6 h7
  obtain ⟨a9, es9, what, R, kr, hq9, hc9⟩ := HS.out
  have HC := hid hc9; have HR := hid (hc9.rcrg (by rw [hq9]; exact HOK.out.1)); have HQ9 := hid hq9
  clear hq9 hc9
  obtain ⟨y00, yf0⟩ := PB.out.cells1
  obtain ⟨y0, y1, y2, y3, y4, y5, y6, y7, y8, y9, y10, yf⟩ := HC.out.box.cells11
  go_wp2_with fail
  clear y0 y1 y2 y3 y4 y5 y6 y7 y8 y9 y10 yf y00 yf0
  refine (rcidle_any s t.g es9 a9 _ HR.out).mono ?_
  rintro e w1 ⟨rfl, hb⟩
  replace HS := hid (HS.out.step hb); replace PB := hid (PB.out.step hb); replace HM := hid (HM.out.keep (fun b o ho _ => (hb.block b (Array.getElem?_eq_some_iff.1 ho).1).trans ho)); replace HG := hid (HG.out.step hb)
  clear hb HC HR
  rw [HQ9.out]
  clear HQ9
  by_cases hid9 : idleB s t.g t.qs = true
  ·skip
   rw [hid9]
   go_wp2_with fail
   refine leaves_marks (lo := l) (fun W' => GrownP (fun i => l ≤ i) w W' ∧ SA W' l gc s t) (fun A B b o hA hg hl ho hc => ⟨hA.1.trans (GrownP.ofGrown hg hl), hA.2.abides hg (fun r e => by cases e; exact ⟨o, ho, hc⟩)⟩) (fun W hW => ?_) bs w1 HM.out ⟨HG.out, HS.out⟩
   exact ⟨.tuple #[], results_none rfl _ _ _, rfl, hW.1, by rw [← HF.out, setF_idle hid9]; exact hW.2⟩
  have HID := hid (show idleB s t.g t.qs = false by simpa using hid9)
  clear hid9
  rw [HID.out]
  obtain ⟨y00, yf0⟩ := PB.out.cells1
  go_wp2_with fail
  clear y00 yf0
  refine (s_pick HS.out HOK.out).mono ?_
  rintro x w2 ⟨rfl, hs2, hg2, hk2, hp2⟩
  have HS2 := hid hs2
  have hgb := hid (show w.heap.size < w1.heap.size from PB.out.lt)
  replace PB := hid (hp2 _ _ PB.out)
  replace HM := hid (HM.out.keep hk2.same); replace HG := hid (HG.out.trans hg2)
  clear hs2 hg2 hk2 hp2 HS
  obtain ⟨y00, yf0⟩ := PB.out.cells1
  go_wp2_with fail
  clear y00 yf0
  refine (rcdone_any gc w2).mono ?_
  rintro x w3 ⟨rfl, rfl⟩
  have bx := below_box w2 (.cells #[ptr gc] 72)
  have PD := hid (Blk.new w2 72 #[ptr gc])
  replace HS2 := hid (HS2.out.step bx); replace PB := hid (PB.out.step bx)
  replace HM := hid (HM.out.keep (fun b o ho _ => (bx.block b (Array.getElem?_eq_some_iff.1 ho).1).trans ho)); replace HG := hid (HG.out.step bx)
  obtain ⟨gd, hgd⟩ : ∃ gd, gd = w2.heap.size := ⟨_, rfl⟩
  rw [← hgd] at PD ⊢
  clear bx hgd
  generalize w2.alloc (.cells #[ptr gc] 72) = w3 at *
  go_wp2_with fail
  obtain ⟨q1, hq1⟩ : ∃ q1, q1 = pkQ t := ⟨_, rfl⟩
  obtain ⟨gr1, hgr1⟩ : ∃ gr1, gr1 = gPick t.g t.k true := ⟨_, rfl⟩
  have HQ1 := hid hq1; have HGR1 := hid hgr1
  have hk1 : t.k < q1.length := by rw [hq1, pk_len]; exact HOK.out.2.2
  have hn1 : q1.length ≤ 1000 := by rw [hq1, pk_len]; have h1 := HOK.out.1.2.1; have h2 := HOK.out.1.1.2.1.2.1; omega
  have hgd := (good_pick HOK.out).2.2 _ (qAt_mem (by rw [← hq1]; exact hk1))
  rw [← hq1] at hgd
  have HGP := hid (SvOk.run HOK.out); have HRC := hid (ran_count HOK.out)
  rw [← hq1, ← hgr1] at HGP; rw [← hq1] at HRC
  have HS3 := hid (show SA w3 l gc s (tJ gr1 q1 t.ran t.k 0) by rw [tJ_zero _ _ _ _ hk1, hgr1, hq1]; exact HS2.out)
  have HK1 := hid hk1
  have HMB := hid (show ∀ b ∈ bs, b < w3.heap.size from fun b hb => (HM.out.2 b hb).2.1)
  have HLW3 := hid (show l ≤ w3.heap.size from Nat.le_trans HLW.out HG.out.size)
  clear HS2
  refine (wpIn_wide (n := 5)).1 ?_
  refine' wpIn_rangeFunc_read rfl (by omega) (gf := 87) (lb := #[ptr gd]) rfl trivial (enters_of Tryz.func87 (by kernel_rfl) rfl)
    (rcdone_seq (5 - 1) l gc gd s gr1 q1 t.ran t.k (by omega) hk1 hn1 hgd.1.2.1 hgd.1.1) (fun _ => rfl)
    (fun j W => RdS l gc gd s gr1 q1 t.ran t.k j W ∧ Blk W w.heap.size 72 #[ptr gc] ∧ Marks l W bs ∧ GrownP (fun i => l ≤ i) w W ∧ w3.heap.size ≤ W.heap.size) (fun _ _ _ => False)
    ?books (fun _ _ _ _ _ h _ _ => h) ?steps (fun j W _ h => h.1) ⟨⟨PD.out, HS3.out⟩, PB.out, HM.out, HG.out, Nat.le_refl _⟩ _ ?assign ?body ?done (fun _ _ _ _ _ h => h.elim)
  case books =>
    rintro j A B row ⟨⟨h1, h2⟩, h3, h4, h5, h6⟩ hg hr
    have hr2 : ∀ r, row = some r → ∃ o : Obj, A.heap[r]? = some o ∧ o.isCells = false := fun r e => (hr r e).2
    refine ⟨⟨h1.abides hg hr2, h2.abides hg hr2⟩, h3.abides hg hr2, ⟨h4.1, fun b hb => ?_⟩, ?_, Nat.le_trans h6 hg.size⟩
    · obtain ⟨k1, k2, k3⟩ := h4.2 b hb
      have hne : some b ≠ row := fun e => by have := (hr b e.symm).1; have := HMB.out b hb; omega
      exact ⟨k1, Nat.lt_of_lt_of_le k2 hg.size, (hg.block b k2 hne).trans k3⟩
    · refine h5.trans ⟨hg.os, hg.tape, hg.output, hg.size, fun i hi hp => hg.block i hi (fun e => hp ?_)⟩
      have := (hr i e.symm).1
      have := HLW3.out
      show l ≤ i
      omega
  case steps =>
    rintro j A B ⟨⟨h1, h2⟩, h3, h4, h5, h6⟩ hb
    exact ⟨⟨h1.step hb, h2.step hb⟩, h3.step hb, h4.keep (fun b o ho _ => (hb.block b (Array.getElem?_eq_some_iff.1 ho).1).trans ho), h5.step hb, Nat.le_trans h6 hb.size⟩
  case assign =>
    intro l' k' W K hK
    have HK := hid hK
    clear hK
    gi_wp2_with fail
    exact HK.out
  case body =>
    rintro l' j W hj ⟨⟨h1, h2⟩, h3, h4, h5, h6⟩
    have HD2 := hid h1; have HS4 := hid h2; have PB4 := hid h3; have HM4 := hid h4; have HG4 := hid h5; have HZ4 := hid h6
    clear h1 h2 h3 h4 h5 h6
    obtain ⟨y00, yf0⟩ := PB4.out.cells1
    gi_wp2_with fail
    clear y00 yf0
    refine ⟨trivial, (CallsIn.inRound l' (callsIn_wide.2 (s_run HS4.out (HGP.out j) (by show t.k < (drQ q1 t.k j).length; rw [drQ_len]; exact HK1.out) (by show 0 < drN (drQ q1 t.k j) t.k; rw [drN_drQ q1 t.k j HK1.out (Nat.le_of_lt hj)]; omega) (by show (t.ran ++ drR q1 t.k j).length ≤ 100000; have h1 := HRC.out j; have h2 := HN.out; omega)))).mono ?_⟩
    rintro x W5 ⟨rfl, hs5, hg5, hk5, hp5⟩
    gi_wp2_with fail
    exact ⟨hk5.from _, ⟨⟨hp5 _ _ HD2.out, by rw [← tJ_succ _ _ _ _ _ HK1.out]; exact hs5⟩, hp5 _ _ PB4.out, HM4.out.keep hk5.same, HG4.out.trans hg5, Nat.le_trans HZ4.out hk5.size⟩, trivial⟩
  case done =>
    rintro mb W hmb ⟨⟨h1, h2⟩, h3, h4, h5, h6⟩ hD
    have HS4 := hid h2; have PB4 := hid h3; have HG4 := hid h5
    have HM4 := hid (h4.cons (b := mb) (fun hm => by have := HMB.out mb hm; omega) (by have := HLW3.out; omega) (show W.heap[mb]? = some (.deferred (some [])) from hD))
    clear h1 h2 h3 h4 h5 h6 hD HM PB HG HS3 PD HMB HGP
    obtain ⟨a5, es5, what5, R5, kr5, hq5, hc5⟩ := HS4.out
    have HC5 := hid (show CA W l gc s gr1 es5 (t.k : Nat) what5 (t.ran ++ drR q1 t.k (drN q1 t.k)) a5 R5 (t.ran ++ drR q1 t.k (drN q1 t.k)).length kr5 from hc5); have HQ5 := hid hq5
    have hl5 := hid (show a5.nq = q1.length by rw [← hc5.qs.len]; have h1 := congrArg List.length hq5; rw [ql_len] at h1; exact h1.trans (drQ_len _ _ _))
    clear hc5 hq5
    go_upto_region 6 with fail
    have hn5 : 1 ≤ a5.nq ∧ a5.nq ≤ 1000 := by have h1 := hl5.out; have h2 := HK1.out; omega
    have hk5 : t.k < 1000 := by have h2 := HK1.out; omega
    obtain ⟨k2, hk2⟩ : ∃ k2 : Nat, k2 = (t.k + 1) % a5.nq := ⟨_, rfl⟩
    have hadd : IntKind.i64.wrap ((t.k : Int) + 1) = (t.k : Int) + 1 := by rw [IntKind.wrap_i64]; omega
    have hrem : ((t.k : Int) + 1).tmod (a5.nq : Int) = (k2 : Int) := by rw [hk2, Int.tmod_eq_emod_of_nonneg (by omega), ← Int.natCast_succ, ← Int.natCast_emod]
    have HK2 := hid hk2
    clear hk2
    have hnz : ¬ ((a5.nq : Int) = 0) := by omega
    have hnz2 : ¬ (a5.nq = 0) := by omega
    clear hn5 hk5
    replace HM4 := hid (show Marks l W.drew (mb :: bs) from HM4.out)
    have bx := (Below.refl W.heap.size W).drew
    replace PB4 := hid (PB4.out.step bx); replace HC5 := hid (HC5.out.step bx); replace HS4 := hid (HS4.out.step bx); replace HG4 := hid (HG4.out.step bx)
    clear bx
    have hszd := hid (show W.drew.heap.size = W.heap.size from rfl)
    refine wp_region_noPanic ?_
    refine wp_region_held_tail 15 (fun W' : World => W'.cell? ⟨w.heap.size, 0, none⟩ = some (ptr gc) ∧ W'.cell? ⟨gc, 7, none⟩ = some (.slice a5.Q a5.nq a5.kq) ∧ W'.cell? ⟨gc, 8, none⟩ = some (.int .i64 (t.k : Nat))) #[false, false, false, false, false, false, false, false, false, false, false, false, false, false, false, false] (by kernel_rfl) ⟨PB4.out.cells1.1, (HC5.out.box).cells11.2.2.2.2.2.2.2.1, (HC5.out.box).cells11.2.2.2.2.2.2.2.2.1⟩ (by kernel_rfl) (by kernel_rfl) (fun hS => ?_)
    generalize W.drew = Wd at *
    refine tkT 0 hS ?_
    refine tkT 1 hS ?_
    refine tkT 2 hS ?_
    refine tkT 3 hS ?_
    refine tkT 4 hS ?_
    refine tkT 5 hS ?_
    refine tkT 6 hS ?_
    refine tkT 7 hS ?_
    refine tkT 8 hS ?_
    refine tkT 9 hS ?_
    refine tkT 10 hS ?_
    refine tkT 11 hS ?_
    refine tkT 12 hS ?_
    refine tkT 13 hS ?_
    refine tkT 14 hS ?_
    refine wpAnyT_done (by kernel_rfl) ?_
    simp only [List.drop_succ_cons, List.drop_zero]
    clear hS
    obtain ⟨y0, y1, y2, y3, y4, y5, y6, y7, y8, y9, y10, yf⟩ := HC5.out.box.cells11
    go_wp2_with fail
    refine NoPanic.normal ?_
    clear y0 y1 y2 y3 y4 y5 y6 y7 y8 y9 y10 yf
    have hgr := grown_set (World.grownBy.refl Wd (some gc)) 8 (.int .i64 (k2 : Int))
    replace PB4 := hid (PB4.out.grown hgr (fun e => HC5.out.box.neT PB4.out (by decide) (Option.some.inj e).symm))
    replace HS4 := hid (s_is HS4.out k2 hgr (fun s g a is what R nr kr hb => hb.setCell 8 _))
    replace HM4 := hid (HM4.out.keep (fun b o ho hc => (hgr.block b (Array.getElem?_eq_some_iff.1 ho).1 (fun e => by cases e; rw [HC5.out.box.notOther ho] at hc; cases hc)).trans ho))
    replace HG4 := hid (HG4.out.trans (GrownP.ofGrown hgr HC5.out.lg))
    clear hgr
    generalize Wd.setCell ⟨gc, 8, none⟩ (.int .i64 (k2 : Int)) = Wc15 at *
    go_wp2
    go_step3
    have hte : (⟨gr1, drQ q1 t.k (drN q1 t.k), t.ran ++ drR q1 t.k (drN q1 t.k), k2⟩ : Sv) = turnF t := by rw [HK2.out, hl5.out, HQ1.out, HGR1.out, pk_len]; rfl
    have HJ := hid (show LbJ w l gc w.heap.size s t0 (turnF t) (mb :: bs) Wc15 from ⟨turn_ok HOK.out, by rw [← hte]; exact HS4.out, by rw [← HF.out, setF_step HOK.out HID.out], PB4.out, HM4.out, HG4.out, by
      rw [← hte]
      have h1 := HRC.out (drN q1 t.k); have h2 := HN.out
      show (t.ran ++ drR q1 t.k (drN q1 t.k)).length + wN (drQ q1 t.k (drN q1 t.k)) ≤ 8000
      omega⟩)
    exact ⟨rfl, turnF t, ⟨mb :: bs, _, _, _, _, _, _, _, _, _, _, _, _, _, _, _, _, _, _, _, _, _, _, _, _, _, _, _, _, _, _, _, _, _, _, rfl, HJ.out⟩, mu_turn HOK.out HID.out⟩
def sv0 (g : Gr) (es : List Qe) : Sv := ⟨g, ql es, [], 0⟩
/-- Settle: the error, and all that is held -/
def settleC (s : St) (g : Gr) (es : List Qe) : Int × St × Gr × Qs × List Int :=
  if RcOk s g es then (if quietB s then (0, s, (setF s (sv0 g es)).g, (setF s (sv0 g es)).qs, (setF s (sv0 g es)).ran) else (241, (0, [], []), zGr, [], [])) else (240, (0, [], []), zGr, [], [])
theorem settleC_nz {s : St} {g : Gr} {es : List Qe} (h : (settleC s g es).1 ≠ 0) : (settleC s g es).2 = ((0, [], []), zGr, [], []) := by
  unfold settleC at h ⊢
  split at h
  · rename_i e
    rw [if_pos e]
    split at h
    · exact absurd rfl h
    · rename_i e2; rw [if_neg e2]
  · rename_i e; rw [if_neg e]
theorem sv0_ok {s : St} {g : Gr} {es : List Qe} (hg : RcGood s g (ql es)) (hq : quietB s = true) : SvOk s (sv0 g es) :=
  ⟨hg, hq, by show 0 < (ql es).length; have := hg.2.1; have := hg.1.2.1.1; omega⟩
theorem rsettle_any (s : St) (g : Gr) (es : List Qe) (a : Ra) (w : World) (h : RcR w s g es a) : Calls Tryz.prog 16 #[rcv s g a] w (RnPost w (settleC s g es)) := by
  refine rsettle_from s g es a w _ h settleC_nz (fun hn => if_neg hn) (fun hok l gc es1 a1 W hca hgd hql => ?_)
  unfold settleC
  rw [if_pos hok]
  by_cases hq : quietB s = true
  · rw [if_pos hq]
    refine (callsIn_wide.1 (rsettle1_in l gc s g es1 a1 W hca hgd hq)).mono ?_
    rintro x w' ⟨rfl, hg, a2, es2, what, R, kr, h1, h2⟩
    have e : (⟨g, ql es1, [], 0⟩ : Sv) = sv0 g es := by unfold sv0; rw [hql]
    rw [e] at h1 h2
    exact ⟨hg, .inl ⟨rfl, rfl, a2, es2, _, what, R, _, kr, h1, h2⟩⟩
  · have hq' : quietB s = false := by simpa using hq
    rw [if_neg hq]
    refine (rsettle1_open l gc s g es1 a1 W hca hgd hq').mono ?_
    rintro x w' ⟨rfl, hb⟩
    exact ⟨.ofBelow hb, .inr ⟨241, rfl, by decide, rfl⟩⟩
/-- what Settle hands back, as the laws use it -/
def SeP (r : Int × St × Gr × Qs × List Int) (w : World) (x : Ending) (w' : World) : Prop :=
  ∃ a es R kr, x = .returned (.tuple #[rcv r.2.1 r.2.2.1 a, .slice R r.2.2.2.2.length kr, .int .i64 r.1]) ∧ ql es = r.2.2.2.1 ∧ a.nq = es.length ∧ RcP (fun i => i < w.heap.size) w' r.2.1 r.2.2.1 es a ∧ Ow u64v w' w.heap.size 35 R r.2.2.2.2.length kr r.2.2.2.2 ∧ Below w.heap.size w w'
theorem settleC_ok {s : St} {g : Gr} {es : List Qe} (h : (settleC s g es).1 = 0) : RcGood s g (ql es) ∧ quietB s = true ∧ settleC s g es = (0, s, (setF s (sv0 g es)).g, (setF s (sv0 g es)).qs, (setF s (sv0 g es)).ran) := by
  unfold settleC at h ⊢
  split at h
  · rename_i e
    rw [if_pos e]
    split at h
    · rename_i e2; exact ⟨rcOk_iff.1 e, e2, if_pos e2⟩
    · exact absurd h (by simp)
  · exact absurd h (by simp)
end Go.Proofs.YtfipdoofgbjbjaaGreat

/- afterglowref14: Settle. No condition but sizes. -/
namespace Go.Proofs.YtfipdoofgbjbjaaGreat
open Go.RowKit
attribute [local go_sem] Oper.semAt_some
theorem overs_map {s : St} {g : Gr} {qs : Qs} (h : RcGood s g qs) (k : Nat) (q : Bool) : qs.map (fun x => (x.1, (gPick g k q).dn)) = overs g.dn (gPick g k q).dn qs := by
  unfold overs
  split
  · rfl
  · rename_i hn
    have e : (gPick g k q).dn = g.dn := by
      revert hn
      unfold gPick gReport gBegin
      (repeat' split) <;> intro hn <;> first | rfl | (exfalso; apply hn; dsimp only; omega)
    rw [e]
    conv => rhs; rw [← List.map_id qs]
    exact List.map_congr_left fun x hx => by rw [← (h.2.2 x hx).2.1]; rfl
theorem quietR_of {s : St} (h : quietB s = true) : quietR s = true := by
  unfold quietB at h
  unfold quietR
  rw [List.all_eq_true] at h ⊢
  intro x hx
  have := of_decide_eq_true (h x hx)
  exact decide_eq_true (by omega)
theorem idleR_eq {s : St} (h : quietB s = true) (g : Gr) (qs : Qs) : idleR s g qs = idleB s g qs := by unfold idleR idleB; rw [h, quietR_of h]
theorem rturn14_sv (p : Nat → Prop) (s : St) (t : Sv) (es : List Qe) (a : Ra) (w : World) (h : RcP p w s t.g es a) (hp : ∀ i, p i → i < w.heap.size) (hql : ql es = t.qs) (hnq : a.nq = es.length) (hok : SvOk s t) :
    Calls Tryz.prog 53 #[rcv s t.g a, .int .i64 t.k] w (TuP p w s (turnF t).g (turnF t).qs (drR (pkQ t) t.k (drN (pkQ t) t.k))) := by
  have hg := hok.1
  obtain ⟨⟨b1, b2, b3⟩, hlen, hq⟩ := hok.1
  obtain ⟨g1, g2, g3, g4, g5, g6, g7⟩ := b2
  have hk := hok.2.2
  have e1 := quiet_at hok.2.1 t.k
  have hg2 : gPick t.g t.k true = gPick t.g t.k (decide (s.2.1[t.k]?.getD 0 = 0)) := by rw [e1]
  have hq1 : pkQ t = (ql es).map fun x => (x.1, (gPick t.g t.k true).dn) := by rw [hql, overs_map hg]; rfl
  exact rturn14_any p s t.g es a t.k _ (pkQ t) w h hp (by omega) (by omega) hnq ⟨g3, by split at g4 <;> omega⟩ g6 hg2 hq1 (good_pick hok) (by rw [← ql_len, hql]; exact hk)
def SJ (pp : Nat → Prop) (w : World) (s : St) (F t : Sv) (B : Option Addr) (m d : Nat) (wr : World) : Prop :=
  ∃ a es, SvOk s t ∧ setF s t = F ∧ t.ran.length + wN t.qs ≤ 8000 ∧ ql es = t.qs ∧ a.nq = es.length ∧ Blk wr w.heap.size 30 (rcells s t.g a) ∧ Blk wr (w.heap.size + 1) 30 #[.int .i64 0, .slice none 0 0, .slice none 0 0, .int .i64 0, .int .i64 0, .bool false, .slice none 0 0, .slice none 0 0] ∧
    RcP (pOut pp B) wr s t.g es a ∧ Ow u64v wr (w.heap.size + 2) 35 B m d t.ran ∧ Below w.heap.size w wr ∧ w.heap.size + 2 ≤ wr.heap.size
noncomputable def lbM (pp : Nat → Prop) (w : World) (s : St) (F : Sv) (o : Value) (wr : World) : Nat := leastN (fun n => ∃ (t : Sv) (B : Option Addr) (m d : Nat), o = .slice B m d ∧ t.k = 0 ∧ SJ pp w s F t B m d wr ∧ mu t = n)
theorem lbM_some {pp : Nat → Prop} {w : World} {s : St} {F : Sv} {o : Value} {wr : World} (h : ∃ (t : Sv) (B : Option Addr) (m d : Nat), o = .slice B m d ∧ t.k = 0 ∧ SJ pp w s F t B m d wr) : ∃ (t : Sv) (B : Option Addr) (m d : Nat), o = .slice B m d ∧ t.k = 0 ∧ SJ pp w s F t B m d wr ∧ mu t = lbM pp w s F o wr := by
  obtain ⟨t, B, m, d, h1, h2, h3⟩ := h
  exact (leastN_spec (p := fun n => ∃ (t : Sv) (B : Option Addr) (m d : Nat), o = .slice B m d ∧ t.k = 0 ∧ SJ pp w s F t B m d wr ∧ mu t = n) ⟨mu t, t, B, m, d, h1, h2, h3, rfl⟩).1
theorem lbM_le {pp : Nat → Prop} {w : World} {s : St} {F t : Sv} {B : Option Addr} {m d : Nat} {wr : World} (h2 : t.k = 0) (h3 : SJ pp w s F t B m d wr) : lbM pp w s F (.slice B m d) wr ≤ mu t :=
  (leastN_spec (p := fun n => ∃ (t : Sv) (B' : Option Addr) (m' d' : Nat), Value.slice B m d = .slice B' m' d' ∧ t.k = 0 ∧ SJ pp w s F t B' m' d' wr ∧ mu t = n) ⟨mu t, t, B, m, d, rfl, h2, h3, rfl⟩).2 _ ⟨t, B, m, d, rfl, h2, h3, rfl⟩
set_option maxRecDepth 100000 in
set_option maxHeartbeats 8000000 in
theorem rsettle14_any (p : Nat → Prop) (s : St) (g : Gr) (es : List Qe) (a : Ra) (w : World) (h : RcP p w s g es a) (hp : ∀ i, p i → i < w.heap.size) (hnq : a.nq = es.length) (hg : RcGood s g (ql es)) (hq : quietB s = true) :
    Calls Tryz.prog 18 #[rcv s g a] w (TuP p w s (setF s (sv0 g es)).g (setF s (sv0 g es)).qs (setF s (sv0 g es)).ran) := by
  have HB := hid (Below.refl w.heap.size w); have HR := hid h.fresh; have HP := hid hp; have HQT := hid hq; have HNQ := hid hnq
  have HOK := hid (sv0_ok hg hq)
  have HCT := hid (show (sv0 g es).ran.length + wN (sv0 g es).qs ≤ 8000 by
    have h1 := wN_le (es := es) (fun x hx => by have := (hg.2.2 _ (ql_mem hx)).1.2.1; dsimp only at this; omega) es.length
    rw [List.take_length] at h1
    have h2 := hg.1.2.1.2.1
    have h3 := hg.2.1
    rw [ql_len] at h3
    show 0 + wN (ql es) ≤ 8000
    omega)
  obtain ⟨F, hF⟩ : ∃ F, F = setF s (sv0 g es) := ⟨_, rfl⟩
  rw [← hF]
  have HF := hid hF
  obtain ⟨i0, hi0, hz00, hz01, hz02⟩ := info_parts info_u64
  clear h hp hg hq hF hnq
  have bx := below_box w (.cells (rcells s g a) 30)
  replace HR := hid (HR.out.step bx); replace HB := hid (below_then HB.out bx)
  clear bx
  have P := hid (Blk.new w 30 (rcells s g a))
  have bx := below_box (w.alloc (.cells (rcells s g a) 30)) (.cells #[.int .i64 0, .slice none 0 0, .slice none 0 0, .int .i64 0, .int .i64 0, .bool false, .slice none 0 0, .slice none 0 0] 30)
  replace HR := hid (HR.out.step bx); replace P := hid (P.out.step bx); replace HB := hid (below_then HB.out bx)
  clear bx
  have PZ := hid (Blk.new2 w 30 #[.int .i64 0, .slice none 0 0, .slice none 0 0, .int .i64 0, .int .i64 0, .bool false, .slice none 0 0, .slice none 0 0] (.cells (rcells s g a) 30))
  go_enter Tryz.func18, Tryz.ntmps18
  obtain ⟨y00, y01, y02, y03, y04, y05, y06, y07, yf0⟩ := P.out.cells8
  obtain ⟨y10, y11, y12, y13, y14, y15, y16, y17, yf1⟩ := PZ.out.cells8
  go_wp2_with fail
  clear y00 y01 y02 y03 y04 y05 y06 y07 yf0 y10 y11 y12 y13 y14 y15 y16 y17 yf1
  have hz0 := hid (show ((w.alloc (.cells (rcells s g a) 30)).alloc (.cells #[.int .i64 0, .slice none 0 0, .slice none 0 0, .int .i64 0, .int .i64 0, .bool false, .slice none 0 0, .slice none 0 0] 30)).heap.size = w.heap.size + 2 by simp)
  generalize (w.alloc (.cells (rcells s g a) 30)).alloc (.cells #[.int .i64 0, .slice none 0 0, .slice none 0 0, .int .i64 0, .int .i64 0, .bool false, .slice none 0 0, .slice none 0 0] 30) = W0 at *
  obtain ⟨pp, hpp⟩ : ∃ pp : Nat → Prop, pp = fun i => p i ∨ (w.heap.size ≤ i ∧ i < w.heap.size + 2) := ⟨_, rfl⟩
  have HP2 := hid (show pp w.heap.size ∧ pp (w.heap.size + 1) by rw [hpp]; exact ⟨.inr (by omega), .inr (by omega)⟩)
  have HLT := hid (show ∀ i, pp i → i < w.heap.size + 2 by rw [hpp]; exact fun i hi => hi.elim (fun h => by have := HP.out i h; omega) (fun h => h.2))
  have HPI := hid (show ∀ i, p i → pp i by rw [hpp]; exact fun i hi => .inl hi)
  replace HR := hid (HR.out.mono (q := pp) (fun i hi => by rw [hpp] at hi; exact hi.elim .inl (fun h => .inr h.1)))
  clear hpp
  have HSJ := hid (show SJ pp w s F (sv0 g es) none 0 0 W0 from ⟨a, es, HOK.out, HF.out.symm, HCT.out, rfl, HNQ.out, P.out, PZ.out, HR.out.mono (fun i hi => hi.elim id (fun ⟨b, hb, _⟩ => by cases hb)), Ow.nil _ _ _, HB.out, by have := hz0.out; omega⟩)
  clear P PZ HR HB HOK HCT HF HNQ hz0
  go_loopw [4] (fun o wr => ∃ (t : Sv) (B : Option Addr) (m d : Nat), o = .slice B m d ∧ t.k = 0 ∧ SJ pp w s F t B m d wr) (fun o wr => lbM pp w s F o wr)
  case atStart => exact ⟨sv0 g es, none, 0, 0, rfl, rfl, HSJ.out⟩
  case round =>
    clear HSJ
    obtain ⟨t, B, m, d, rfl, hk, hsj, hmu⟩ := lbM_some hrel
    clear hrel
    have HK := hid hk; have HMU := hid hmu; have HS := hid hsj
    obtain ⟨a1, es1, k1, k2, k3, k4, k5, k6, k7, k8, k9, k10, k11⟩ := hsj
    have HL0 := hid (show a1.nq = t.qs.length by rw [k5, ← k4, ql_len]); have HL1 := hid (show 1 ≤ t.qs.length by have := k1.2.2; omega); have HL8 := hid (show t.qs.length ≤ 1000 by rw [← k4, ql_len, ← k5]; exact k8.rcr.ql)
    have HPP := hid k6
    clear k1 k2 k3 k4 k5 k6 k7 k8 k9 k10 k11 hk hmu
    obtain ⟨y00, y01, y02, y03, y04, y05, y06, y07, yf0⟩ := HPP.out.cells8
    rw [HL0.out] at y07
    go_wp2_with fail
    clear HPP y00 y01 y02 y03 y04 y05 y06 y07 yf0
    go_loopw [4, 11] (fun o i wr => ∃ (c : Nat) (t' : Sv) (B : Option Addr) (m d : Nat), o = .slice B m d ∧ i = .int .i64 c ∧ c ≤ t.qs.length ∧ t'.qs.length = t.qs.length ∧ t'.k = c % t.qs.length ∧ SJ pp w s F t' B m d wr ∧ mu t' + c ≤ mu t) (fun _ i _ => t.qs.length - (intOf i).toNat)
    case atStart => exact ⟨0, t, B, m, d, rfl, rfl, Nat.zero_le _, rfl, by rw [HK.out, Nat.zero_mod], HS.out, by omega⟩
    case round =>
      obtain ⟨c, t', B', m', d', rfl, rfl, hc, hln, hk', hsj', hmc⟩ := hrel
      have HLN := hid hln; have HK' := hid hk'; have HMC := hid hmc; have HSJ := hid hsj'; have HCC := hid hc
      clear hln hk' hmc hsj' hc HS HK
      by_cases hcn : c < t.qs.length
      rotate_left
      · obtain rfl : c = t.qs.length := by have := HCC.out; omega
        have hnn : ¬ ((t.qs.length : Int) < (t.qs.length : Int)) := by omega
        go_wp2_with fail
        have hk0 : t'.k = 0 := by rw [HK'.out, Nat.mod_self]
        refine ⟨⟨t', B', m', d', rfl, hk0, HSJ.out⟩, ?_⟩
        rw [← HMU.out]
        have h1 := lbM_le hk0 HSJ.out
        have h2 := HMC.out
        have h3 := HL1.out
        omega
      have hcl : (c : Int) < (t.qs.length : Int) := by omega
      have hw1 : IntKind.i64.wrap ((c : Int) + 1) = (c : Int) + 1 := by rw [IntKind.wrap_i64]; have := HL8.out; omega
      have HKC := hid (show t'.k = c by rw [HK'.out, Nat.mod_eq_of_lt hcn])
      obtain ⟨a2, es2, k1, k2, k3, k4, k5, k6, k7, k8, k9, k10, k11⟩ := HSJ.out
      have HOK := hid k1; have HFI := hid k2; have HCT := hid k3; have HQL := hid k4; have HNQ := hid k5; have HPP := hid k6; have HZZ := hid k7; have HR := hid k8; have HO := hid k9; have HBB := hid k10; have HSZ := hid k11
      clear k1 k2 k3 k4 k5 k6 k7 k8 k9 k10 k11 HSJ HK'
      have HLR := hid (show ∀ i, pOut pp B' i → i < wr.heap.size from fun i hi => by
        rcases hi with hi | ⟨b, hb, rfl⟩
        · have := HLT.out i hi; have := HSZ.out; omega
        · obtain ⟨_, cs, hk⟩ := HO.out.blk b hb; exact Blk.lt hk)
      obtain ⟨y00, y01, y02, y03, y04, y05, y06, y07, yf0⟩ := HPP.out.cells8
      go_wp2_with fail
      clear y00 y01 y02 y03 y04 y05 y06 y07 yf0
      refine (ridle14_any s t'.g es2 a2 wr HR.out.rcr).mono ?_
      rintro e w2 ⟨rfl, hb⟩
      rw [idleR_eq HQT.out, HQL.out]
      have HS2 := hid hb.size
      replace HPP := hid (HPP.out.step hb); replace HZZ := hid (HZZ.out.step hb); replace HR := hid (HR.out.step hb); replace HO := hid (HO.out.step hb); replace HBB := hid (below_then HBB.out hb)
      clear hb
      rcases hidl : idleB s t'.g t'.qs with _ | _
      ·skip
       have HID := hid hidl
       clear hidl
       obtain ⟨y00, y01, y02, y03, y04, y05, y06, y07, yf0⟩ := HPP.out.cells8
       go_wp2_with fail
       clear y00 y01 y02 y03 y04 y05 y06 y07 yf0
       rw [← HKC.out]
       refine (rturn14_sv (pOut pp B') s t' es2 a2 w2 HR.out (fun i hi => by have := HLR.out i hi; have := HS2.out; omega) HQL.out HNQ.out HOK.out).mono ?_
       rw [HKC.out]
       clear HR
       rintro e w3 ⟨a3, es3, R2, m2, d2, rfl, hqs, hnq, hR, hRo, hb⟩
       have HR := hid hR; have HQ3 := hid hqs; have HN3 := hid hnq; have HRO := hid (show Ow u64v w3 w2.heap.size 35 R2 m2 d2 (drR (pkQ t') t'.k (drN (pkQ t') t'.k)) by rw [HKC.out]; exact hRo); have HW3 := hid hb.size
       clear hR hqs hnq hRo HQL HNQ
       replace HPP := hid (HPP.out.step hb); replace HZZ := hid (HZZ.out.step hb); replace HO := hid (HO.out.step hb); replace HBB := hid (below_then HBB.out hb)
       clear hb
       have bx := below_box w3 (.cells (rcells s (turnF t').g a3) 30)
       replace HPP := hid (HPP.out.step bx); replace HZZ := hid (HZZ.out.step bx); replace HO := hid (HO.out.step bx); replace HR := hid (HR.out.step bx); replace HRO := hid (HRO.out.step bx); replace HBB := hid (below_then HBB.out bx)
       clear bx
       have PN := hid (Blk.new w3 30 (rcells s (turnF t').g a3))
       go_upto_region 8 with fail
       generalize w3.alloc (.cells (rcells s (turnF t').g a3) 30) = W4 at *
       have HML := hid (show m' + m2 ≤ 8000 by
         have h1 := HO.out.len; have h2 := HRO.out.len
         have h3 := ran_count HOK.out (drN (pkQ t') t'.k)
         rw [List.length_append] at h3
         have h4 := HCT.out
         omega)
       have bx := (Below.refl W4.heap.size W4).drew
       replace HPP := hid (HPP.out.step bx); replace HZZ := hid (HZZ.out.step bx); replace HO := hid (HO.out.step bx); replace HR := hid (HR.out.step bx); replace HRO := hid (HRO.out.step bx); replace PN := hid (PN.out.step bx); replace HBB := hid (below_then HBB.out bx)
       clear bx
       have hszd := hid (show W4.drew.heap.size = W4.heap.size from rfl)
       refine wp_region_noPanic ?_
       refine wp_region_held_tail 4 (fun W' : World => W'.cell? ⟨w3.heap.size, 0, none⟩ = some (.int .i64 s.1) ∧ W'.cell? ⟨w3.heap.size, 1, none⟩ = some (.slice a3.A a3.n a3.k) ∧ W'.cell? ⟨w3.heap.size, 2, none⟩ = some (.slice a3.B a3.m a3.d) ∧ W'.cell? ⟨w3.heap.size, 3, none⟩ = some (.int .i64 (turnF t').g.dn) ∧ W'.cell? ⟨w3.heap.size, 4, none⟩ = some (.int .i64 (turnF t').g.ak) ∧ W'.cell? ⟨w3.heap.size, 5, none⟩ = some (.bool (turnF t').g.on) ∧ W'.cell? ⟨w3.heap.size, 6, none⟩ = some (.slice a3.D (turnF t').g.nd.length a3.kd) ∧ W'.cell? ⟨w3.heap.size, 7, none⟩ = some (.slice a3.Q a3.nq a3.kq)) #[false, false, false, false, false, false] (by kernel_rfl) ⟨PN.out.cells8.1, PN.out.cells8.2.1, PN.out.cells8.2.2.1, PN.out.cells8.2.2.2.1, PN.out.cells8.2.2.2.2.1, PN.out.cells8.2.2.2.2.2.1, PN.out.cells8.2.2.2.2.2.2.1, PN.out.cells8.2.2.2.2.2.2.2.1⟩ (by kernel_rfl) (by kernel_rfl) (fun hS => ?_)
       generalize W4.drew = Wd at *
       refine tkT 0 hS ?_
       refine tkT 1 hS ?_
       refine tkT 2 hS ?_
       refine rdyT [3] (csyT (fun K hK => ?_) AllReadyT.nil)
       refine step_app u64v 0 _ rfl _ _ 40 rfl (w.heap.size + 2) 35 i0 _ 8 Tryz.underlying40 hi0 hz00 hz01 hz02 rfl B' m' d' _ rfl HO.out _ _ R2 m2 d2 _ rfl (HRO.out.sl (d := 0)) (fun _ => rfl) (by have := HML.out; simp only [maxLen]; omega) (by have := HML.out; omega) (by have := HZZ.out.lt; omega) ?_
       intro B3 d3 Wc3 hown hgr hat
       replace HPP := hid (HPP.out.keptO HO.out (by decide) hgr); replace HZZ := hid (HZZ.out.keptO HO.out (by decide) hgr); replace PN := hid (PN.out.keptO HO.out (by decide) hgr)
       replace HR := hid (HR.out.appended hgr hat)
       replace HBB := hid (HBB.out.grown hgr HBB.out.size (fun r e => by obtain ⟨b, hb, hbb⟩ := own_addr e; have := (HO.out.blk b hb).1; omega))
       have HO2 := hid hown
       clear hown hgr hat HO HRO
       clear hS
       refine kyT hK ⟨PN.out.cells8.1, PN.out.cells8.2.1, PN.out.cells8.2.2.1, PN.out.cells8.2.2.2.1, PN.out.cells8.2.2.2.2.1, PN.out.cells8.2.2.2.2.2.1, PN.out.cells8.2.2.2.2.2.2.1, PN.out.cells8.2.2.2.2.2.2.2.1⟩ fun hS => ?_
       clear hK K
       refine wpAnyT_done (by kernel_rfl) ?_
       simp only [List.drop_succ_cons, List.drop_zero]
       clear hS
       obtain ⟨y00, y01, y02, y03, y04, y05, y06, y07, yf0⟩ := HPP.out.cells8
       obtain ⟨y10, y11, y12, y13, y14, y15, y16, y17, yf1⟩ := PN.out.cells8
       go_wp2_with fail
       refine NoPanic.normal ?_
       clear y00 y01 y02 y03 y04 y05 y06 y07 yf0 y10 y11 y12 y13 y14 y15 y16 y17 yf1
       have hbk0 : Blk (Wc3.setCell ⟨w.heap.size, 0, none⟩ (.int .i64 s.1)) (w.heap.size) 30 #[.int .i64 s.1, .slice a2.A a2.n a2.k, .slice a2.B a2.m a2.d, .int .i64 t'.g.dn, .int .i64 t'.g.ak, .bool t'.g.on, .slice a2.D t'.g.nd.length a2.kd, .slice a2.Q a2.nq a2.kq] := HPP.out.setCell 0 (.int .i64 s.1)
       have hbk1 : Blk ((Wc3.setCell ⟨w.heap.size, 0, none⟩ (.int .i64 s.1)).setCell ⟨w.heap.size, 1, none⟩ (.slice a3.A a3.n a3.k)) (w.heap.size) 30 #[.int .i64 s.1, .slice a3.A a3.n a3.k, .slice a2.B a2.m a2.d, .int .i64 t'.g.dn, .int .i64 t'.g.ak, .bool t'.g.on, .slice a2.D t'.g.nd.length a2.kd, .slice a2.Q a2.nq a2.kq] := hbk0.setCell 1 (.slice a3.A a3.n a3.k)
       have hbk2 : Blk (((Wc3.setCell ⟨w.heap.size, 0, none⟩ (.int .i64 s.1)).setCell ⟨w.heap.size, 1, none⟩ (.slice a3.A a3.n a3.k)).setCell ⟨w.heap.size, 2, none⟩ (.slice a3.B a3.m a3.d)) (w.heap.size) 30 #[.int .i64 s.1, .slice a3.A a3.n a3.k, .slice a3.B a3.m a3.d, .int .i64 t'.g.dn, .int .i64 t'.g.ak, .bool t'.g.on, .slice a2.D t'.g.nd.length a2.kd, .slice a2.Q a2.nq a2.kq] := hbk1.setCell 2 (.slice a3.B a3.m a3.d)
       have hbk3 : Blk ((((Wc3.setCell ⟨w.heap.size, 0, none⟩ (.int .i64 s.1)).setCell ⟨w.heap.size, 1, none⟩ (.slice a3.A a3.n a3.k)).setCell ⟨w.heap.size, 2, none⟩ (.slice a3.B a3.m a3.d)).setCell ⟨w.heap.size, 3, none⟩ (.int .i64 (turnF t').g.dn)) (w.heap.size) 30 #[.int .i64 s.1, .slice a3.A a3.n a3.k, .slice a3.B a3.m a3.d, .int .i64 (turnF t').g.dn, .int .i64 t'.g.ak, .bool t'.g.on, .slice a2.D t'.g.nd.length a2.kd, .slice a2.Q a2.nq a2.kq] := hbk2.setCell 3 (.int .i64 (turnF t').g.dn)
       have hbk4 : Blk (((((Wc3.setCell ⟨w.heap.size, 0, none⟩ (.int .i64 s.1)).setCell ⟨w.heap.size, 1, none⟩ (.slice a3.A a3.n a3.k)).setCell ⟨w.heap.size, 2, none⟩ (.slice a3.B a3.m a3.d)).setCell ⟨w.heap.size, 3, none⟩ (.int .i64 (turnF t').g.dn)).setCell ⟨w.heap.size, 4, none⟩ (.int .i64 (turnF t').g.ak)) (w.heap.size) 30 #[.int .i64 s.1, .slice a3.A a3.n a3.k, .slice a3.B a3.m a3.d, .int .i64 (turnF t').g.dn, .int .i64 (turnF t').g.ak, .bool t'.g.on, .slice a2.D t'.g.nd.length a2.kd, .slice a2.Q a2.nq a2.kq] := hbk3.setCell 4 (.int .i64 (turnF t').g.ak)
       have hbk5 : Blk ((((((Wc3.setCell ⟨w.heap.size, 0, none⟩ (.int .i64 s.1)).setCell ⟨w.heap.size, 1, none⟩ (.slice a3.A a3.n a3.k)).setCell ⟨w.heap.size, 2, none⟩ (.slice a3.B a3.m a3.d)).setCell ⟨w.heap.size, 3, none⟩ (.int .i64 (turnF t').g.dn)).setCell ⟨w.heap.size, 4, none⟩ (.int .i64 (turnF t').g.ak)).setCell ⟨w.heap.size, 5, none⟩ (.bool (turnF t').g.on)) (w.heap.size) 30 #[.int .i64 s.1, .slice a3.A a3.n a3.k, .slice a3.B a3.m a3.d, .int .i64 (turnF t').g.dn, .int .i64 (turnF t').g.ak, .bool (turnF t').g.on, .slice a2.D t'.g.nd.length a2.kd, .slice a2.Q a2.nq a2.kq] := hbk4.setCell 5 (.bool (turnF t').g.on)
       have hbk6 : Blk (((((((Wc3.setCell ⟨w.heap.size, 0, none⟩ (.int .i64 s.1)).setCell ⟨w.heap.size, 1, none⟩ (.slice a3.A a3.n a3.k)).setCell ⟨w.heap.size, 2, none⟩ (.slice a3.B a3.m a3.d)).setCell ⟨w.heap.size, 3, none⟩ (.int .i64 (turnF t').g.dn)).setCell ⟨w.heap.size, 4, none⟩ (.int .i64 (turnF t').g.ak)).setCell ⟨w.heap.size, 5, none⟩ (.bool (turnF t').g.on)).setCell ⟨w.heap.size, 6, none⟩ (.slice a3.D (turnF t').g.nd.length a3.kd)) (w.heap.size) 30 #[.int .i64 s.1, .slice a3.A a3.n a3.k, .slice a3.B a3.m a3.d, .int .i64 (turnF t').g.dn, .int .i64 (turnF t').g.ak, .bool (turnF t').g.on, .slice a3.D (turnF t').g.nd.length a3.kd, .slice a2.Q a2.nq a2.kq] := hbk5.setCell 6 (.slice a3.D (turnF t').g.nd.length a3.kd)
       have hbk7 : Blk ((((((((Wc3.setCell ⟨w.heap.size, 0, none⟩ (.int .i64 s.1)).setCell ⟨w.heap.size, 1, none⟩ (.slice a3.A a3.n a3.k)).setCell ⟨w.heap.size, 2, none⟩ (.slice a3.B a3.m a3.d)).setCell ⟨w.heap.size, 3, none⟩ (.int .i64 (turnF t').g.dn)).setCell ⟨w.heap.size, 4, none⟩ (.int .i64 (turnF t').g.ak)).setCell ⟨w.heap.size, 5, none⟩ (.bool (turnF t').g.on)).setCell ⟨w.heap.size, 6, none⟩ (.slice a3.D (turnF t').g.nd.length a3.kd)).setCell ⟨w.heap.size, 7, none⟩ (.slice a3.Q a3.nq a3.kq)) (w.heap.size) 30 #[.int .i64 s.1, .slice a3.A a3.n a3.k, .slice a3.B a3.m a3.d, .int .i64 (turnF t').g.dn, .int .i64 (turnF t').g.ak, .bool (turnF t').g.on, .slice a3.D (turnF t').g.nd.length a3.kd, .slice a3.Q a3.nq a3.kq] := hbk6.setCell 7 (.slice a3.Q a3.nq a3.kq)
       have hgr : Wc3.grownBy ((((((((Wc3.setCell ⟨w.heap.size, 0, none⟩ (.int .i64 s.1)).setCell ⟨w.heap.size, 1, none⟩ (.slice a3.A a3.n a3.k)).setCell ⟨w.heap.size, 2, none⟩ (.slice a3.B a3.m a3.d)).setCell ⟨w.heap.size, 3, none⟩ (.int .i64 (turnF t').g.dn)).setCell ⟨w.heap.size, 4, none⟩ (.int .i64 (turnF t').g.ak)).setCell ⟨w.heap.size, 5, none⟩ (.bool (turnF t').g.on)).setCell ⟨w.heap.size, 6, none⟩ (.slice a3.D (turnF t').g.nd.length a3.kd)).setCell ⟨w.heap.size, 7, none⟩ (.slice a3.Q a3.nq a3.kq)) (some (w.heap.size)) := (grown_set (grown_set (grown_set (grown_set (grown_set (grown_set (grown_set (grown_set (World.grownBy.refl Wc3 (some (w.heap.size))) 0 (.int .i64 s.1)) 1 (.slice a3.A a3.n a3.k)) 2 (.slice a3.B a3.m a3.d)) 3 (.int .i64 (turnF t').g.dn)) 4 (.int .i64 (turnF t').g.ak)) 5 (.bool (turnF t').g.on)) 6 (.slice a3.D (turnF t').g.nd.length a3.kd)) 7 (.slice a3.Q a3.nq a3.kq))
       replace HPP := hid hbk7
       clear hbk0 hbk1 hbk2 hbk3 hbk4 hbk5 hbk6 hbk7
       generalize (((((((Wc3.setCell ⟨w.heap.size, 0, none⟩ (.int .i64 s.1)).setCell ⟨w.heap.size, 1, none⟩ (.slice a3.A a3.n a3.k)).setCell ⟨w.heap.size, 2, none⟩ (.slice a3.B a3.m a3.d)).setCell ⟨w.heap.size, 3, none⟩ (.int .i64 (turnF t').g.dn)).setCell ⟨w.heap.size, 4, none⟩ (.int .i64 (turnF t').g.ak)).setCell ⟨w.heap.size, 5, none⟩ (.bool (turnF t').g.on)).setCell ⟨w.heap.size, 6, none⟩ (.slice a3.D (turnF t').g.nd.length a3.kd)).setCell ⟨w.heap.size, 7, none⟩ (.slice a3.Q a3.nq a3.kq) = W6 at *
       replace HZZ := hid (HZZ.out.grown hgr (by simp)); replace HR := hid (HR.out.turn hgr (.inl HP2.out.1))
       replace HO2 := hid (HO2.out.keptG hgr (fun a ha e => by have h1 := (HO2.out.blk a ha).1; have := Option.some.inj e; omega))
       replace HBB := hid (HBB.out.grown hgr HBB.out.size (fun r e => by cases e; exact Nat.le_refl _))
       have HS6 := hid (show w.heap.size + 2 ≤ W6.heap.size from HZZ.out.lt)
       clear hgr
       go_wp2_with fail
       have ht := mu_turn HOK.out HID.out
       refine ⟨⟨c + 1, turnF t', B3, m' + m2, d3, rfl, rfl, by omega, by rw [turn_len]; exact HLN.out, ?_, ⟨a3, es3, turn_ok HOK.out, by rw [← setF_step HOK.out HID.out]; exact HFI.out, ?_, HQ3.out, HN3.out, HPP.out, HZZ.out, HR.out, HO2.out, HBB.out, HS6.out⟩, by have := HMC.out; omega⟩, ?_⟩
       · show (t'.k + 1) % t'.qs.length = _
         rw [HKC.out, HLN.out]
       · exact Nat.le_trans (Nat.le_of_eq (ran_count HOK.out _)) HCT.out
       · show t.qs.length - (c + 1) < t.qs.length - c
         omega
      ·skip
       have HID := hid hidl
       clear hidl
       obtain ⟨y00, y01, y02, y03, y04, y05, y06, y07, yf0⟩ := HPP.out.cells8
       obtain ⟨y10, y11, y12, y13, y14, y15, y16, y17, yf1⟩ := HZZ.out.cells8
       go_wp2_with fail
       clear y00 y01 y02 y03 y04 y05 y06 y07 yf0 y10 y11 y12 y13 y14 y15 y16 y17 yf1
       have hbk0 : Blk (w2.setCell ⟨w.heap.size + 1, 0, none⟩ (.int .i64 s.1)) (w.heap.size + 1) 30 #[.int .i64 s.1, .slice none 0 0, .slice none 0 0, .int .i64 0, .int .i64 0, .bool false, .slice none 0 0, .slice none 0 0] := HZZ.out.setCell 0 (.int .i64 s.1)
       have hbk1 : Blk ((w2.setCell ⟨w.heap.size + 1, 0, none⟩ (.int .i64 s.1)).setCell ⟨w.heap.size + 1, 1, none⟩ (.slice a2.A a2.n a2.k)) (w.heap.size + 1) 30 #[.int .i64 s.1, .slice a2.A a2.n a2.k, .slice none 0 0, .int .i64 0, .int .i64 0, .bool false, .slice none 0 0, .slice none 0 0] := hbk0.setCell 1 (.slice a2.A a2.n a2.k)
       have hbk2 : Blk (((w2.setCell ⟨w.heap.size + 1, 0, none⟩ (.int .i64 s.1)).setCell ⟨w.heap.size + 1, 1, none⟩ (.slice a2.A a2.n a2.k)).setCell ⟨w.heap.size + 1, 2, none⟩ (.slice a2.B a2.m a2.d)) (w.heap.size + 1) 30 #[.int .i64 s.1, .slice a2.A a2.n a2.k, .slice a2.B a2.m a2.d, .int .i64 0, .int .i64 0, .bool false, .slice none 0 0, .slice none 0 0] := hbk1.setCell 2 (.slice a2.B a2.m a2.d)
       have hbk3 : Blk ((((w2.setCell ⟨w.heap.size + 1, 0, none⟩ (.int .i64 s.1)).setCell ⟨w.heap.size + 1, 1, none⟩ (.slice a2.A a2.n a2.k)).setCell ⟨w.heap.size + 1, 2, none⟩ (.slice a2.B a2.m a2.d)).setCell ⟨w.heap.size + 1, 3, none⟩ (.int .i64 t'.g.dn)) (w.heap.size + 1) 30 #[.int .i64 s.1, .slice a2.A a2.n a2.k, .slice a2.B a2.m a2.d, .int .i64 t'.g.dn, .int .i64 0, .bool false, .slice none 0 0, .slice none 0 0] := hbk2.setCell 3 (.int .i64 t'.g.dn)
       have hbk4 : Blk (((((w2.setCell ⟨w.heap.size + 1, 0, none⟩ (.int .i64 s.1)).setCell ⟨w.heap.size + 1, 1, none⟩ (.slice a2.A a2.n a2.k)).setCell ⟨w.heap.size + 1, 2, none⟩ (.slice a2.B a2.m a2.d)).setCell ⟨w.heap.size + 1, 3, none⟩ (.int .i64 t'.g.dn)).setCell ⟨w.heap.size + 1, 4, none⟩ (.int .i64 t'.g.ak)) (w.heap.size + 1) 30 #[.int .i64 s.1, .slice a2.A a2.n a2.k, .slice a2.B a2.m a2.d, .int .i64 t'.g.dn, .int .i64 t'.g.ak, .bool false, .slice none 0 0, .slice none 0 0] := hbk3.setCell 4 (.int .i64 t'.g.ak)
       have hbk5 : Blk ((((((w2.setCell ⟨w.heap.size + 1, 0, none⟩ (.int .i64 s.1)).setCell ⟨w.heap.size + 1, 1, none⟩ (.slice a2.A a2.n a2.k)).setCell ⟨w.heap.size + 1, 2, none⟩ (.slice a2.B a2.m a2.d)).setCell ⟨w.heap.size + 1, 3, none⟩ (.int .i64 t'.g.dn)).setCell ⟨w.heap.size + 1, 4, none⟩ (.int .i64 t'.g.ak)).setCell ⟨w.heap.size + 1, 5, none⟩ (.bool t'.g.on)) (w.heap.size + 1) 30 #[.int .i64 s.1, .slice a2.A a2.n a2.k, .slice a2.B a2.m a2.d, .int .i64 t'.g.dn, .int .i64 t'.g.ak, .bool t'.g.on, .slice none 0 0, .slice none 0 0] := hbk4.setCell 5 (.bool t'.g.on)
       have hbk6 : Blk (((((((w2.setCell ⟨w.heap.size + 1, 0, none⟩ (.int .i64 s.1)).setCell ⟨w.heap.size + 1, 1, none⟩ (.slice a2.A a2.n a2.k)).setCell ⟨w.heap.size + 1, 2, none⟩ (.slice a2.B a2.m a2.d)).setCell ⟨w.heap.size + 1, 3, none⟩ (.int .i64 t'.g.dn)).setCell ⟨w.heap.size + 1, 4, none⟩ (.int .i64 t'.g.ak)).setCell ⟨w.heap.size + 1, 5, none⟩ (.bool t'.g.on)).setCell ⟨w.heap.size + 1, 6, none⟩ (.slice a2.D t'.g.nd.length a2.kd)) (w.heap.size + 1) 30 #[.int .i64 s.1, .slice a2.A a2.n a2.k, .slice a2.B a2.m a2.d, .int .i64 t'.g.dn, .int .i64 t'.g.ak, .bool t'.g.on, .slice a2.D t'.g.nd.length a2.kd, .slice none 0 0] := hbk5.setCell 6 (.slice a2.D t'.g.nd.length a2.kd)
       have hbk7 : Blk ((((((((w2.setCell ⟨w.heap.size + 1, 0, none⟩ (.int .i64 s.1)).setCell ⟨w.heap.size + 1, 1, none⟩ (.slice a2.A a2.n a2.k)).setCell ⟨w.heap.size + 1, 2, none⟩ (.slice a2.B a2.m a2.d)).setCell ⟨w.heap.size + 1, 3, none⟩ (.int .i64 t'.g.dn)).setCell ⟨w.heap.size + 1, 4, none⟩ (.int .i64 t'.g.ak)).setCell ⟨w.heap.size + 1, 5, none⟩ (.bool t'.g.on)).setCell ⟨w.heap.size + 1, 6, none⟩ (.slice a2.D t'.g.nd.length a2.kd)).setCell ⟨w.heap.size + 1, 7, none⟩ (.slice a2.Q a2.nq a2.kq)) (w.heap.size + 1) 30 #[.int .i64 s.1, .slice a2.A a2.n a2.k, .slice a2.B a2.m a2.d, .int .i64 t'.g.dn, .int .i64 t'.g.ak, .bool t'.g.on, .slice a2.D t'.g.nd.length a2.kd, .slice a2.Q a2.nq a2.kq] := hbk6.setCell 7 (.slice a2.Q a2.nq a2.kq)
       have hgr : w2.grownBy ((((((((w2.setCell ⟨w.heap.size + 1, 0, none⟩ (.int .i64 s.1)).setCell ⟨w.heap.size + 1, 1, none⟩ (.slice a2.A a2.n a2.k)).setCell ⟨w.heap.size + 1, 2, none⟩ (.slice a2.B a2.m a2.d)).setCell ⟨w.heap.size + 1, 3, none⟩ (.int .i64 t'.g.dn)).setCell ⟨w.heap.size + 1, 4, none⟩ (.int .i64 t'.g.ak)).setCell ⟨w.heap.size + 1, 5, none⟩ (.bool t'.g.on)).setCell ⟨w.heap.size + 1, 6, none⟩ (.slice a2.D t'.g.nd.length a2.kd)).setCell ⟨w.heap.size + 1, 7, none⟩ (.slice a2.Q a2.nq a2.kq)) (some (w.heap.size + 1)) := (grown_set (grown_set (grown_set (grown_set (grown_set (grown_set (grown_set (grown_set (World.grownBy.refl w2 (some (w.heap.size + 1))) 0 (.int .i64 s.1)) 1 (.slice a2.A a2.n a2.k)) 2 (.slice a2.B a2.m a2.d)) 3 (.int .i64 t'.g.dn)) 4 (.int .i64 t'.g.ak)) 5 (.bool t'.g.on)) 6 (.slice a2.D t'.g.nd.length a2.kd)) 7 (.slice a2.Q a2.nq a2.kq))
       replace HZZ := hid hbk7
       clear hbk0 hbk1 hbk2 hbk3 hbk4 hbk5 hbk6 hbk7
       generalize (((((((w2.setCell ⟨w.heap.size + 1, 0, none⟩ (.int .i64 s.1)).setCell ⟨w.heap.size + 1, 1, none⟩ (.slice a2.A a2.n a2.k)).setCell ⟨w.heap.size + 1, 2, none⟩ (.slice a2.B a2.m a2.d)).setCell ⟨w.heap.size + 1, 3, none⟩ (.int .i64 t'.g.dn)).setCell ⟨w.heap.size + 1, 4, none⟩ (.int .i64 t'.g.ak)).setCell ⟨w.heap.size + 1, 5, none⟩ (.bool t'.g.on)).setCell ⟨w.heap.size + 1, 6, none⟩ (.slice a2.D t'.g.nd.length a2.kd)).setCell ⟨w.heap.size + 1, 7, none⟩ (.slice a2.Q a2.nq a2.kq) = W5 at *
       have hfe := setF_idle (s := s) HID.out
       rw [HFI.out] at hfe
       subst hfe
       replace HR := hid (HR.out.turn hgr (.inl HP2.out.2))
       replace HO := hid (HO.out.keptG hgr (fun a ha e => by have h1 := (HO.out.blk a ha).1; have := Option.some.inj e; omega))
       replace HBB := hid (HBB.out.grown hgr HBB.out.size (fun r e => by cases e; omega))
       clear hgr
       obtain ⟨q0, q1', q2, q3, q4, q5, q6, q7, qf⟩ := HZZ.out.cells8
       refine bodyPost_ret (v := .tuple #[rcv s F.g a2, .slice B' m' d']) (by simp [results, Tryz.results18, go_sem, q0, q1', q2, q3, q4, q5, q6, q7]) rfl ⟨a2, es2, B', m', d', rfl, HQL.out, HNQ.out, HR.out.mono (fun i hi => .inl (HPI.out i hi)), HO.out.mono (by omega), HBB.out⟩
end Go.Proofs.YtfipdoofgbjbjaaGreat

/- afterglowref14: Right. No condition but sizes, and that numbers are of their kinds. -/
namespace Go.Proofs.YtfipdoofgbjbjaaGreat
open Go.RowKit
attribute [local go_sem] Oper.semAt_some
def qOk (g : Gr) (x : List Cb × Int) : Prop := QGood x.2 x.1 ∧ x.2 = g.dn ∧ ∀ c ∈ x.1, c.1 ≤ g.ak
instance {s : St} {g : Gr} {qs : Qs} : Decidable (RcGood s g qs) := by unfold RcGood Both; infer_instance
theorem good14_head {s : St} {g : Gr} {qs : Qs} (h : ¬ (Good s.1 s.2.1 s.2.2 ∧ GrOk g ∧ g.nd.length = s.2.1.length ∧ qs.length = s.2.1.length)) : ¬ RcGood s g qs := fun ⟨⟨h1, h2, h3⟩, h4, _⟩ => h ⟨h1, h2, h3.symm, by omega⟩
theorem good14_row {s : St} {g : Gr} {qs : Qs} {j : Nat} (hj : j < qs.length) (h : ¬ qOk g (qAt qs j)) : ¬ RcGood s g qs := fun ⟨_, _, h5⟩ => h (h5 _ (qAt_mem hj))
theorem good14_all {s : St} {g : Gr} {qs : Qs} (h1 : Good s.1 s.2.1 s.2.2) (h2 : GrOk g) (h3 : g.nd.length = s.2.1.length) (h4 : qs.length = s.2.1.length) (h : ∀ j, j < qs.length → qOk g (qAt qs j)) : RcGood s g qs :=
  ⟨⟨h1, h2, h3.symm⟩, by omega, fun q hq => by
    obtain ⟨j, hj, rfl⟩ := List.getElem_of_mem hq
    have := h j hj
    unfold qAt at this
    rw [List.getElem?_eq_getElem hj] at this
    exact this⟩
set_option maxRecDepth 100000 in
set_option maxHeartbeats 8000000 in
theorem rright14_any (s : St) (g : Gr) (es : List Qe) (a : Ra) (w : World) (h : RcR w s g es a) :
    Calls Tryz.prog 9 #[rcv s g a] w fun e w' => e = .returned (.bool (decide (RcGood s g (ql es)))) ∧ Below w.heap.size w w' := by
  have HR := hid h; have HB := hid (Below.refl w.heap.size w)
  have HNX := hid h.rd.lenx; have HNQ := hid h.qs.len; have HQL := hid h.ql; have HNL := hid h.gl; have HNN := hid h.rd.hn
  obtain ⟨V, hV⟩ : ∃ V, V = decide (RcGood s g (ql es)) := ⟨_, rfl⟩
  rw [← hV]
  have HY := hid (fun h : RcGood s g (ql es) => show V = true by rw [hV]; exact decide_eq_true h); have HN := hid (fun h : ¬ RcGood s g (ql es) => show V = false by rw [hV]; exact decide_eq_false h)
  clear h hV
  have bx := below_box w (.cells (rcells s g a) 30)
  replace HR := hid (HR.out.step bx); replace HB := hid (below_then HB.out bx)
  clear bx
  have PR := hid (Blk.new w 30 (rcells s g a))
  go_enter Tryz.func9, Tryz.ntmps9
  obtain ⟨y00, y01, y02, y03, y04, y05, y06, y07, yf0⟩ := PR.out.cells8
  go_wp2_with fail
  clear y00 y01 y02 y03 y04 y05 y06 y07 yf0
  have hz0 := hid (show (w.alloc (.cells (rcells s g a) 30)).heap.size = w.heap.size + 1 by simp)
  generalize w.alloc (.cells (rcells s g a) 30) = W0 at *
  clear hz0
  refine (right_any s.1 a.A a.n a.k a.B a.m a.d s.2.1 s.2.2 _ HR.out.rd).mono ?_
  rintro e w1 ⟨rfl, hb⟩
  replace HR := hid (HR.out.step hb); replace PR := hid (PR.out.step hb); replace HB := hid (below_then HB.out hb)
  clear hb
  by_cases h1 : Good s.1 s.2.1 s.2.2
  rotate_left
  ·skip
   rw [decide_eq_false h1]
   have HF := hid (HN.out (good14_head (fun h => h1 h.1)))
   go_wp2
   go_ret
   exact ⟨ret_bool HF.out.symm, HB.out⟩
  rw [decide_eq_true h1]
  obtain ⟨y00, y01, y02, y03, y04, y05, y06, y07, yf0⟩ := PR.out.cells8
  go_wp2_with fail
  clear y00 y01 y02 y03 y04 y05 y06 y07 yf0
  refine (rgright_any g a.D a.kd _ HR.out.gd (by have := HNL.out; omega)).mono ?_
  rintro e w2 ⟨rfl, hb⟩
  replace HR := hid (HR.out.step hb); replace PR := hid (PR.out.step hb); replace HB := hid (below_then HB.out hb)
  clear hb
  by_cases h2 : GrOk g
  rotate_left
  ·skip
   rw [decide_eq_false h2]
   have HF := hid (HN.out (good14_head (fun h => h2 h.2.1)))
   go_wp2
   go_ret
   exact ⟨ret_bool HF.out.symm, HB.out⟩
  rw [decide_eq_true h2]
  by_cases h3 : g.nd.length = s.2.1.length
  rotate_left
  ·skip
   have d1 : ((g.nd.length : Int) != (a.n : Int)) = true := by simp; rw [← HNX.out]; omega
   obtain ⟨y00, y01, y02, y03, y04, y05, y06, y07, yf0⟩ := PR.out.cells8
   have HF := hid (HN.out (good14_head (fun h => h3 h.2.2.1)))
   go_wp2
   go_ret
   exact ⟨ret_bool HF.out.symm, HB.out⟩
  have H3 := hid h3
  clear h3
  by_cases h4 : a.nq = s.2.1.length
  rotate_left
  ·skip
   have d1 : ((g.nd.length : Int) != (a.n : Int)) = false := by simp; rw [← HNX.out]; have := H3.out; omega
   have d2 : ((a.nq : Int) != (a.n : Int)) = true := by simp; rw [← HNX.out]; omega
   obtain ⟨y00, y01, y02, y03, y04, y05, y06, y07, yf0⟩ := PR.out.cells8
   have HF := hid (HN.out (good14_head (fun h => h4 (by rw [← HNQ.out, ← ql_len]; exact h.2.2.2))))
   go_wp2
   go_ret
   exact ⟨ret_bool HF.out.symm, HB.out⟩
  have H4 := hid h4
  clear h4
  have d1 : ((g.nd.length : Int) != (a.n : Int)) = false := by simp; rw [← HNX.out]; have := H3.out; omega
  have d2 : ((a.nq : Int) != (a.n : Int)) = false := by simp; rw [← HNX.out]; have := H4.out; omega
  obtain ⟨y00, y01, y02, y03, y04, y05, y06, y07, yf0⟩ := PR.out.cells8
  go_wp2_with fail
  clear d1 d2 y00 y01 y02 y03 y04 y05 y06 y07 yf0
  have HALL := hid (good14_all (qs := ql es) h1 h2 H3.out (by rw [ql_len, HNQ.out]; exact H4.out))
  have HGO := hid h2
  have HB0 := hid (Below.refl w2.heap.size w2)
  clear h1 h2 H3 H4
  go_loopw [40] (fun i wr => ∃ j : Nat, j ≤ a.nq ∧ i = .int .i64 j ∧ (∀ k, k < j → qOk g (qAt (ql es) k)) ∧ Below w2.heap.size w2 wr) (fun i _ => a.nq - (intOf i).toNat)
  case atStart => exact ⟨0, Nat.zero_le _, rfl, fun k hk => absurd hk (Nat.not_lt_zero _), HB0.out⟩
  case round =>
    obtain ⟨j, hj, rfl, ha, hbw⟩ := hrel
    have HBW := hid hbw; have HA := hid ha
    clear hbw ha HB0
    by_cases hjn : j < a.nq
    rotate_left
    · obtain rfl : j = a.nq := by omega
      have hnn : ¬ ((a.nq : Int) < (a.nq : Int)) := by omega
      have HV2 := hid (HY.out (HALL.out (fun k hk => HA.out k (by rw [ql_len, HNQ.out] at hk; exact hk))))
      go_wp2
      go_ret
      exact ⟨ret_bool HV2.out.symm, below_then HB.out HBW.out⟩
    replace HR := hid (HR.out.step HBW.out); replace PR := hid (PR.out.step HBW.out); replace HB := hid (below_then HB.out HBW.out)
    obtain ⟨b, off, hQ, _, hbh, hc⟩ := HR.out.qs.row (by omega)
    obtain ⟨x, hx⟩ : ∃ x, x = es[j]?.getD zQe := ⟨_, rfl⟩
    have f0 := hc j hjn 0 (by omega)
    have f1 := hc j hjn 1 (by omega)
    rw [← hx] at f0 f1
    have hjl : j < es.length := by rw [HNQ.out]; exact hjn
    have HJL := hid (show j < (ql es).length by rw [ql_len]; exact hjl)
    have hqa : qAt (ql es) j = (x.l, x.o) := by rw [hx]; unfold qAt ql; rw [List.getElem?_map, List.getElem?_eq_getElem hjl]; rfl
    have HX := hid (HR.out.qe x (show x ∈ es by rw [hx, List.getElem?_eq_getElem hjl]; exact List.getElem_mem _))
    have HQA := hid hqa
    obtain ⟨xl, xo, xA, xn, xc⟩ := x
    replace f0 : wr.cell? ⟨b, off + j * 2, none⟩ = some (.slice xA xn xc) := f0
    replace f1 : wr.cell? ⟨b, off + j * 2 + 1, none⟩ = some (.int .u64 xo) := f1
    have hji : (j : Int) < (a.nq : Int) := by omega
    have hw1 : IntKind.i64.wrap ((j : Int) + 1) = (j : Int) + 1 := by rw [IntKind.wrap_i64]; have := HQL.out; omega
    clear hc hbh hx hjl hqa
    rw [hQ]
    have HBQ := hid (Below.refl wr.heap.size wr)
    have bx := below_box wr (.cells #[.slice xA xn xc, .int .u64 xo] 58)
    replace HR := hid (HR.out.step bx); replace PR := hid (PR.out.step bx); replace HX := hid (HX.out.step bx); replace HB := hid (below_then HB.out bx); replace HBQ := hid (below_then HBQ.out bx)
    clear bx
    have PT := hid (Blk.new wr 58 #[.slice xA xn xc, .int .u64 xo])
    go_wp2_with fail
    clear f0 f1 hji hQ
    generalize wr.alloc (.cells #[.slice xA xn xc, .int .u64 xo] 58) = W3 at *
    refine (qright_any xA xn xc xo xl _ HX.out.1 (by have := HX.out.2.2.1; dsimp only at this; omega) HX.out.2.1 HX.out.2.2.2.1).mono ?_
    rintro e w4 ⟨rfl, hb⟩
    replace HR := hid (HR.out.step hb); replace PR := hid (PR.out.step hb); replace HX := hid (HX.out.step hb); replace PT := hid (PT.out.step hb); replace HB := hid (below_then HB.out hb); replace HBQ := hid (below_then HBQ.out hb)
    clear hb
    by_cases h1 : QGood xo xl
    rotate_left
    ·skip
     rw [decide_eq_false h1]
     have HF := hid (HN.out (good14_row HJL.out (fun h => h1 (by have := h.1; rw [HQA.out] at this; exact this))))
     go_wp2
     go_ret
     exact ⟨ret_bool HF.out.symm, HB.out⟩
    rw [decide_eq_true h1]
    have hw2 : IntKind.u64.wrap g.dn = g.dn := by rw [IntKind.wrap_u64]; obtain ⟨_, _, g3, _⟩ := HGO.out; have := HR.out.gi; omega
    have hw3 : IntKind.u64.wrap g.ak = g.ak := by rw [IntKind.wrap_u64]; obtain ⟨_, _, g3, g4, _⟩ := HGO.out; have := HR.out.gi; split at g4 <;> omega
    by_cases h5 : xo = g.dn
    rotate_left
    ·skip
     have d1 : (xo != g.dn) = true := by simpa using h5
     obtain ⟨y00, y01, y02, y03, y04, y05, y06, y07, yf0⟩ := PR.out.cells8
     obtain ⟨y10, y11, yf1⟩ := PT.out.cells2
     have HF := hid (HN.out (good14_row HJL.out (fun h => h5 (by have := h.2.1; rw [HQA.out] at this; exact this))))
     go_wp2
     go_ret
     exact ⟨ret_bool HF.out.symm, HB.out⟩
    subst h5
    have d1 : (g.dn != g.dn) = false := by simp
    obtain ⟨y00, y01, y02, y03, y04, y05, y06, y07, yf0⟩ := PR.out.cells8
    obtain ⟨y10, y11, yf1⟩ := PT.out.cells2
    go_wp2_with fail
    clear d1 y10 y11 yf1 y00 y01 y02 y03 y04 y05 y06 y07 yf0
    have H1 := hid h1
    have HB4 := hid (Below.refl w4.heap.size w4); have HXL := hid HX.out.1.len
    have HXM := hid (show xn ≤ 1000 from HX.out.2.2.1)
    clear h1
    go_loopw [59] (fun i wq => ∃ k : Nat, k ≤ xn ∧ i = .int .i64 k ∧ (∀ n, n < k → (xl[n]?.getD (0, 0)).1 ≤ g.ak) ∧ Below w4.heap.size w4 wq) (fun i _ => xn - (intOf i).toNat)
    case atStart => exact ⟨0, Nat.zero_le _, rfl, fun n hn => absurd hn (Nat.not_lt_zero _), HB4.out⟩
    case round =>
      obtain ⟨k, hk, rfl, ha, hbq⟩ := hrel
      have HBK := hid hbq; have HAK := hid ha
      clear hbq ha HB4
      by_cases hkn : k < xn
      rotate_left
      · obtain rfl : k = xn := by omega
        have hnn : ¬ ((k : Int) < (k : Int)) := by omega
        clear hw2 hw3
        have HQO := hid (show qOk g (qAt (ql es) j) by
          rw [HQA.out]
          refine ⟨H1.out, rfl, fun c hc => ?_⟩
          obtain ⟨n, hn, rfl⟩ := List.getElem_of_mem hc
          have := HAK.out n (by rw [HXL.out] at hn; exact hn)
          rw [List.getElem?_eq_getElem hn] at this
          exact this)
        clear H1 HAK
        go_wp2_with fail
        refine ⟨⟨j + 1, by omega, rfl, fun n hn => ?_, below_then HBW.out (below_then HBQ.out HBK.out)⟩, ?_⟩
        · rcases Nat.lt_or_ge n j with h | h
          · exact HA.out n h
          · obtain rfl : n = j := by omega
            exact HQO.out
        · have h1 : intOf (.int .i64 ((j : Int) + 1)) = (j : Int) + 1 := rfl
          have h2 : intOf (.int .i64 (j : Int)) = (j : Int) := rfl
          rw [h1, h2]; omega
      replace HR := hid (HR.out.step HBK.out); replace PR := hid (PR.out.step HBK.out); replace HB := hid (below_then HB.out HBK.out); replace HX := hid (HX.out.step HBK.out)
      obtain ⟨b', off', hA, _, hbh, hc⟩ := HX.out.1.row (by dsimp only; omega)
      obtain ⟨y, hy⟩ : ∃ y, y = xl[k]?.getD (0, 0) := ⟨_, rfl⟩
      have f0 := hc k hkn 0 (by omega)
      have f1 := hc k hkn 1 (by omega)
      dsimp only at f0 f1 hA
      rw [← hy] at f0 f1
      have HYY := hid hy
      obtain ⟨yp, yv⟩ := y
      replace f0 : wr.cell? ⟨b', off' + k * 2, none⟩ = some (.int .u64 yp) := f0
      replace f1 : wr.cell? ⟨b', off' + k * 2 + 1, none⟩ = some (.int .u64 yv) := f1
      have hki : (k : Int) < (xn : Int) := by omega
      have hw4 : IntKind.i64.wrap ((k : Int) + 1) = (k : Int) + 1 := by rw [IntKind.wrap_i64]; have := HXM.out; omega
      clear hc hbh hy
      rw [hA]
      have HBK2 := HBK
      have bx := below_box wr (.cells #[.int .u64 yp, .int .u64 yv] 60)
      replace HR := hid (HR.out.step bx); replace PR := hid (PR.out.step bx); replace HX := hid (HX.out.step bx); replace HB := hid (below_then HB.out bx); replace HBK2 := hid (below_then HBK2.out bx)
      clear bx
      have PC := hid (Blk.new wr 60 #[.int .u64 yp, .int .u64 yv])
      obtain ⟨y00, y01, y02, y03, y04, y05, y06, y07, yf0⟩ := PR.out.cells8
      obtain ⟨y10, y11, yf1⟩ := PC.out.cells2
      by_cases h6 : g.ak < yp
      ·skip
       have HF := hid (HN.out (good14_row HJL.out (fun h => by have h7 := h.2.2 (yp, yv) (by rw [HQA.out]; dsimp only; rw [HYY.out, List.getElem?_eq_getElem (by rw [HXL.out]; exact hkn)]; exact List.getElem_mem _); dsimp only at h7; omega)))
       go_wp2
       go_ret
       exact ⟨ret_bool HF.out.symm, HB.out⟩
      ·skip
       go_wp2_with fail
       refine ⟨⟨k + 1, by omega, rfl, fun n hn => ?_, HBK2.out⟩, ?_⟩
       · rcases Nat.lt_or_ge n k with h | h
         · exact HAK.out n h
         · obtain rfl : n = k := by omega
           rw [← HYY.out]; dsimp only; omega
       · have h1 : intOf (.int .i64 ((k : Int) + 1)) = (k : Int) + 1 := rfl
         have h2 : intOf (.int .i64 (k : Int)) = (k : Int) := rfl
         rw [h1, h2]; omega
end Go.Proofs.YtfipdoofgbjbjaaGreat

/- afterglowref14: Same. No condition but sizes, and that numbers are of their kinds. -/
namespace Go.Proofs.YtfipdoofgbjbjaaGreat
open Go.RowKit
attribute [local go_sem] Oper.semAt_some
def sameRc (s : St) (g : Gr) (qs : Qs) (s' : St) (g' : Gr) (qs' : Qs) : Bool := sameR s.1 s.2.1 s.2.2 s'.1 s'.2.1 s'.2.2 && (sameG g g' && decide (qs = qs'))
theorem sameRc_refl (s : St) (g : Gr) (qs : Qs) : sameRc s g qs s g qs = true := by unfold sameRc sameR sameG; simp
theorem sameRc_no {s : St} {g : Gr} {qs : Qs} {s' : St} {g' : Gr} {qs' : Qs} (h : ¬ qs = qs') : sameRc s g qs s' g' qs' = false := by unfold sameRc; rw [decide_eq_false h]; simp
theorem qs_ext {qs qs' : Qs} (hl : qs.length = qs'.length) (h : ∀ j, j < qs.length → qAt qs j = qAt qs' j) : qs = qs' :=
  List.ext_getElem hl fun j h1 h2 => by
    have := h j h1
    unfold qAt at this
    rw [List.getElem?_eq_getElem h1, List.getElem?_eq_getElem h2] at this
    exact this
set_option maxRecDepth 100000 in
set_option maxHeartbeats 8000000 in
theorem rsame14_any (s : St) (g : Gr) (es : List Qe) (a : Ra) (s' : St) (g' : Gr) (es' : List Qe) (a' : Ra) (w : World) (h : RcR w s g es a) (h' : RcR w s' g' es' a') :
    Calls Tryz.prog 12 #[rcv s g a, rcv s' g' a'] w fun e w' => e = .returned (.bool (sameRc s g (ql es) s' g' (ql es'))) ∧ Below w.heap.size w w' := by
  have HR := hid h; have HT := hid h'; have HB := hid (Below.refl w.heap.size w)
  have HNQ := hid h.qs.len; have HNT := hid h'.qs.len; have HQL := hid h.ql; have HQT := hid h'.ql; have HNL := hid h.gl; have HNM := hid h'.gl
  obtain ⟨V, hV⟩ : ∃ V, V = sameRc s g (ql es) s' g' (ql es') := ⟨_, rfl⟩
  rw [← hV]
  have HV := hid hV
  clear h h' hV
  have bx := below_box w (.cells (rcells s g a) 30)
  replace HR := hid (HR.out.step bx); replace HT := hid (HT.out.step bx); replace HB := hid (below_then HB.out bx)
  clear bx
  have PR := hid (Blk.new w 30 (rcells s g a))
  have bx := below_box (w.alloc (.cells (rcells s g a) 30)) (.cells (rcells s' g' a') 30)
  replace HR := hid (HR.out.step bx); replace HT := hid (HT.out.step bx); replace PR := hid (PR.out.step bx); replace HB := hid (below_then HB.out bx)
  clear bx
  have PS := hid (Blk.new2 w 30 (rcells s' g' a') (.cells (rcells s g a) 30))
  go_enter Tryz.func12, Tryz.ntmps12
  obtain ⟨y00, y01, y02, y03, y04, y05, y06, y07, yf0⟩ := PR.out.cells8
  obtain ⟨y10, y11, y12, y13, y14, y15, y16, y17, yf1⟩ := PS.out.cells8
  go_wp2_with fail
  clear y00 y01 y02 y03 y04 y05 y06 y07 yf0 y10 y11 y12 y13 y14 y15 y16 y17 yf1
  have hz0 := hid (show ((w.alloc (.cells (rcells s g a) 30)).alloc (.cells (rcells s' g' a') 30)).heap.size = w.heap.size + 2 by simp)
  generalize (w.alloc (.cells (rcells s g a) 30)).alloc (.cells (rcells s' g' a') 30) = W0 at *
  clear hz0
  refine (rsame_any s.1 a.A a.n a.k a.B a.m a.d s.2.1 s.2.2 s'.1 a'.A a'.n a'.k a'.B a'.m a'.d s'.2.1 s'.2.2 _ HR.out.rd HT.out.rd).mono ?_
  rintro e w1 ⟨rfl, hb⟩
  replace HR := hid (HR.out.step hb); replace HT := hid (HT.out.step hb); replace PR := hid (PR.out.step hb); replace PS := hid (PS.out.step hb); replace HB := hid (below_then HB.out hb)
  clear hb
  rcases h1 : sameR s.1 s.2.1 s.2.2 s'.1 s'.2.1 s'.2.2 with _ | _
  ·skip
   have H1 := hid h1
   clear h1
   have HF := hid (show V = false by rw [HV.out]; unfold sameRc; rw [H1.out]; rfl)
   go_wp2
   go_ret
   exact ⟨ret_bool HF.out.symm, HB.out⟩
  have H1 := hid h1
  clear h1
  obtain ⟨y00, y01, y02, y03, y04, y05, y06, y07, yf0⟩ := PR.out.cells8
  obtain ⟨y10, y11, y12, y13, y14, y15, y16, y17, yf1⟩ := PS.out.cells8
  go_wp2_with fail
  clear y00 y01 y02 y03 y04 y05 y06 y07 yf0 y10 y11 y12 y13 y14 y15 y16 y17 yf1
  refine (rgsame_any g g' a.D a'.D a.kd a'.kd _ HR.out.gd HT.out.gd (by have := HNL.out; omega) (by have := HNM.out; omega)).mono ?_
  rintro e w2 ⟨rfl, hb⟩
  replace HR := hid (HR.out.step hb); replace HT := hid (HT.out.step hb); replace PR := hid (PR.out.step hb); replace PS := hid (PS.out.step hb); replace HB := hid (below_then HB.out hb)
  clear hb
  rcases h2 : sameG g g' with _ | _
  ·skip
   have H2 := hid h2
   clear h2
   have HF := hid (show V = false by rw [HV.out]; unfold sameRc; rw [H1.out, H2.out]; rfl)
   go_wp2
   go_ret
   exact ⟨ret_bool HF.out.symm, HB.out⟩
  have H2 := hid h2
  clear h2
  by_cases h3 : a.nq = a'.nq
  rotate_left
  ·skip
   have H3 := hid h3
   have d1 : ((a.nq : Int) != (a'.nq : Int)) = true := by simp; omega
   clear h3
   obtain ⟨y00, y01, y02, y03, y04, y05, y06, y07, yf0⟩ := PR.out.cells8
   obtain ⟨y10, y11, y12, y13, y14, y15, y16, y17, yf1⟩ := PS.out.cells8
   have HF := hid (show V = false by rw [HV.out]; exact sameRc_no (fun e => H3.out (by rw [← HNQ.out, ← HNT.out, ← ql_len, ← ql_len, e])))
   go_wp2
   go_ret
   exact ⟨ret_bool HF.out.symm, HB.out⟩
  have H3 := hid h3
  have d1 : ((a.nq : Int) != (a'.nq : Int)) = false := by simp; omega
  clear h3
  obtain ⟨y00, y01, y02, y03, y04, y05, y06, y07, yf0⟩ := PR.out.cells8
  obtain ⟨y10, y11, y12, y13, y14, y15, y16, y17, yf1⟩ := PS.out.cells8
  go_wp2_with fail
  clear d1 y00 y01 y02 y03 y04 y05 y06 y07 yf0 y10 y11 y12 y13 y14 y15 y16 y17 yf1
  have HYE := hid (fun h : ql es = ql es' => show V = true by rw [HV.out]; unfold sameRc; rw [H1.out, H2.out, decide_eq_true h]; rfl); have HNO := hid (fun h : ¬ ql es = ql es' => show V = false by rw [HV.out]; exact sameRc_no h)
  clear H1 H2 HV
  have HB0 := hid (Below.refl w2.heap.size w2)
  go_loopw [33] (fun i wr => ∃ j : Nat, j ≤ a.nq ∧ i = .int .i64 j ∧ (∀ k, k < j → qAt (ql es) k = qAt (ql es') k) ∧ Below w2.heap.size w2 wr) (fun i _ => a.nq - (intOf i).toNat)
  case atStart => exact ⟨0, Nat.zero_le _, rfl, fun k hk => absurd hk (Nat.not_lt_zero _), HB0.out⟩
  case round =>
    obtain ⟨j, hj, rfl, ha, hbw⟩ := hrel
    have HBW := hid hbw; have HA := hid ha
    clear hbw ha HB0
    by_cases hjn : j < a.nq
    rotate_left
    · obtain rfl : j = a.nq := by omega
      have hnn : ¬ ((a.nq : Int) < (a.nq : Int)) := by omega
      have HV2 := hid (HYE.out (qs_ext (by rw [ql_len, ql_len, HNQ.out, HNT.out]; exact H3.out) (fun k hk => HA.out k (by rw [ql_len, HNQ.out] at hk; exact hk))))
      go_wp2
      go_ret
      exact ⟨ret_bool HV2.out.symm, below_then HB.out HBW.out⟩
    replace HR := hid (HR.out.step HBW.out); replace HT := hid (HT.out.step HBW.out); replace PS := hid (PS.out.step HBW.out); replace HB := hid (below_then HB.out HBW.out)
    have hjm : j < a'.nq := by have := H3.out; omega
    have HJM := hid hjm
    obtain ⟨b, off, hQ, _, hbh, hc⟩ := HR.out.qs.row (by omega)
    obtain ⟨x, hx⟩ : ∃ x, x = es[j]?.getD zQe := ⟨_, rfl⟩
    have f0 := hc j hjn 0 (by omega)
    have f1 := hc j hjn 1 (by omega)
    rw [← hx] at f0 f1
    have hjl : j < es.length := by rw [HNQ.out]; exact hjn
    have hqa : qAt (ql es) j = (x.l, x.o) := by rw [hx]; unfold qAt ql; rw [List.getElem?_map, List.getElem?_eq_getElem hjl]; rfl
    have HX := hid (HR.out.qe x (show x ∈ es by rw [hx, List.getElem?_eq_getElem hjl]; exact List.getElem_mem _))
    have HQA := hid hqa
    obtain ⟨xl, xo, xA, xn, xc⟩ := x
    replace f0 : wr.cell? ⟨b, off + j * 2, none⟩ = some (.slice xA xn xc) := f0
    replace f1 : wr.cell? ⟨b, off + j * 2 + 1, none⟩ = some (.int .u64 xo) := f1
    obtain ⟨y, hy⟩ : ∃ y, y = es'[j]?.getD zQe := ⟨_, rfl⟩
    obtain ⟨b', off', hQ', _, hbh', hc'⟩ := HT.out.qs.row (by omega)
    have HCY := hid (show ∀ W', Below wr.heap.size wr W' → W'.cell? ⟨b', off' + j * 2, none⟩ = some (.slice y.A y.n y.c) ∧ W'.cell? ⟨b', off' + j * 2 + 1, none⟩ = some (.int .u64 y.o) from fun W' hb => by
      obtain ⟨b2, off2, hQ2, _, _, hc2⟩ := (HT.out.step hb).qs.row (by omega)
      rw [hQ'] at hQ2; cases hQ2
      have g0 := hc2 j hjm 0 (by omega)
      have g1 := hc2 j hjm 1 (by omega)
      rw [← hy] at g0 g1
      exact ⟨g0, g1⟩)
    have hjl' : j < es'.length := by rw [HNT.out]; exact hjm
    have hqb : qAt (ql es') j = (y.l, y.o) := by rw [hy]; unfold qAt ql; rw [List.getElem?_map, List.getElem?_eq_getElem hjl']; rfl
    have HY := hid (HT.out.qe y (show y ∈ es' by rw [hy, List.getElem?_eq_getElem hjl']; exact List.getElem_mem _))
    have HQB := hid hqb
    obtain ⟨yl, yo, yA, yn, yc⟩ := y
    dsimp only at HCY
    have hji : (j : Int) < (a.nq : Int) := by omega
    have hjk : (j : Int) < (a'.nq : Int) := by omega
    have hw1 : IntKind.i64.wrap ((j : Int) + 1) = (j : Int) + 1 := by rw [IntKind.wrap_i64]; have := HQL.out; omega
    clear hc hbh hx hjl hqa hy hqb hjl' hc' hbh'
    rw [hQ]
    have HBQ := hid (Below.refl wr.heap.size wr)
    have bx := below_box wr (.cells #[.slice xA xn xc, .int .u64 xo] 58)
    replace HR := hid (HR.out.step bx); replace HT := hid (HT.out.step bx); replace PS := hid (PS.out.step bx); replace HX := hid (HX.out.step bx); replace HY := hid (HY.out.step bx); replace HB := hid (below_then HB.out bx); replace HBQ := hid (below_then HBQ.out bx)
    clear bx
    have PT := hid (Blk.new wr 58 #[.slice xA xn xc, .int .u64 xo])
    go_upto_region 6 with fail
    clear f0 f1 hji hQ
    generalize wr.alloc (.cells #[.slice xA xn xc, .int .u64 xo] 58) = W3 at *
    have P0 := hid (show Blk W3 (w.heap.size + 1) 30 #[.int .i64 s'.1, .slice a'.A a'.n a'.k, .slice a'.B a'.m a'.d, .int .i64 g'.dn, .int .i64 g'.ak, .bool g'.on, .slice a'.D g'.nd.length a'.kd, .slice (some ⟨b', off', none⟩) a'.nq a'.kq] by have h := PS.out; unfold rcells at h; rw [hQ'] at h; exact h)
    clear hQ'
    have bx := (Below.refl W3.heap.size W3).drew
    replace HR := hid (HR.out.step bx); replace HT := hid (HT.out.step bx); replace PS := hid (PS.out.step bx); replace HX := hid (HX.out.step bx); replace HY := hid (HY.out.step bx); replace PT := hid (PT.out.step bx); replace P0 := hid (P0.out.step bx); replace HB := hid (below_then HB.out bx); replace HBQ := hid (below_then HBQ.out bx)
    clear bx
    have hszd := hid (show W3.drew.heap.size = W3.heap.size from rfl)
    refine wp_region_noPanic ?_
    refine wp_region_held_drew (S := (fun W' : World => W'.cell? ⟨w.heap.size + 1, 0, none⟩ = some (.int .i64 s'.1) ∧ W'.cell? ⟨w.heap.size + 1, 1, none⟩ = some (.slice a'.A a'.n a'.k) ∧ W'.cell? ⟨w.heap.size + 1, 2, none⟩ = some (.slice a'.B a'.m a'.d) ∧ W'.cell? ⟨w.heap.size + 1, 3, none⟩ = some (.int .i64 g'.dn) ∧ W'.cell? ⟨w.heap.size + 1, 4, none⟩ = some (.int .i64 g'.ak) ∧ W'.cell? ⟨w.heap.size + 1, 5, none⟩ = some (.bool g'.on) ∧ W'.cell? ⟨w.heap.size + 1, 6, none⟩ = some (.slice a'.D g'.nd.length a'.kd) ∧ W'.cell? ⟨w.heap.size + 1, 7, none⟩ = some (.slice (some ⟨b', off', none⟩) a'.nq a'.kq) ∧ W'.cell? ⟨wr.heap.size, 0, none⟩ = some (.slice xA xn xc) ∧ W'.cell? ⟨wr.heap.size, 1, none⟩ = some (.int .u64 xo) ∧ W'.cell? ⟨b', off' + j * 2, none⟩ = some (.slice yA yn yc) ∧ W'.cell? ⟨b', off' + j * 2 + 1, none⟩ = some (.int .u64 yo))) (by kernel_rfl) ⟨P0.out.cells8.1, P0.out.cells8.2.1, P0.out.cells8.2.2.1, P0.out.cells8.2.2.2.1, P0.out.cells8.2.2.2.2.1, P0.out.cells8.2.2.2.2.2.1, P0.out.cells8.2.2.2.2.2.2.1, P0.out.cells8.2.2.2.2.2.2.2.1, PT.out.cells2.1, PT.out.cells2.2.1, (HCY.out _ HBQ.out).1, (HCY.out _ HBQ.out).2⟩ (fun hS => ?_)
    generalize W3.drew = Wd at *
    refine tk 0 hS ?_
    refine tk 1 hS ?_
    refine tk 2 hS ?_
    refine tk 3 hS ?_
    refine tk 4 hS ?_
    refine tk 5 hS ?_
    refine rdy [6] (csy (fun K hK => ?_) AllReadyH.nil)
    go_simp
    refine (qrsame_any xA xn xc xo xl yA yn yc yo yl _ HX.out.1 HY.out.1 (by have := HX.out.2.2.1; dsimp only at this; omega) (by have := HY.out.2.2.1; dsimp only at this; omega)).mono ?_
    rintro e w6 ⟨rfl, hb⟩
    have hsz0 := hid (show Wd.heap.size ≤ w6.heap.size from hb.size)
    replace HR := hid (HR.out.step hb); replace HT := hid (HT.out.step hb); replace PS := hid (PS.out.step hb); replace HX := hid (HX.out.step hb); replace HY := hid (HY.out.step hb); replace PT := hid (PT.out.step hb); replace P0 := hid (P0.out.step hb); replace HB := hid (below_then HB.out hb); replace HBQ := hid (below_then HBQ.out hb)
    clear hb
    go_wp2_with fail
    clear hS
    refine ky hK ⟨P0.out.cells8.1, P0.out.cells8.2.1, P0.out.cells8.2.2.1, P0.out.cells8.2.2.2.1, P0.out.cells8.2.2.2.2.1, P0.out.cells8.2.2.2.2.2.1, P0.out.cells8.2.2.2.2.2.2.1, P0.out.cells8.2.2.2.2.2.2.2.1, PT.out.cells2.1, PT.out.cells2.2.1, (HCY.out _ HBQ.out).1, (HCY.out _ HBQ.out).2⟩ fun hS => ?_
    clear hK K
    refine tk 7 hS ?_
    refine wpAnyH_done (by kernel_rfl) ?_ _
    refine NoPanic.normal ?_
    clear hS
    rcases hs : sameQ xo xl yo yl with _ | _
    ·skip
     have HSQ := hid hs
     clear hs
     have HF := hid (HNO.out (fun e => by
       have h1 : qAt (ql es) j = qAt (ql es') j := by rw [e]
       rw [HQA.out, HQB.out] at h1
       have h2 := HSQ.out
       unfold sameQ at h2
       have := of_decide_eq_false h2
       simp only [Prod.mk.injEq] at h1
       exact this ⟨h1.2, h1.1⟩))
     go_wp2
     go_ret
     exact ⟨ret_bool HF.out.symm, HB.out⟩
    ·skip
     have HSQ := hid hs
     clear hs
     go_wp2_with fail
     refine ⟨⟨j + 1, by omega, rfl, fun n hn => ?_, below_then HBW.out HBQ.out⟩, ?_⟩
     · rcases Nat.lt_or_ge n j with h | h
       · exact HA.out n h
       · obtain rfl : n = j := by omega
         have h2 := of_decide_eq_true HSQ.out
         have h3 := HQA.out
         have h4 := HQB.out
         rw [h3, h4, h2.1, h2.2]
     · have h1 : intOf (.int .i64 ((j : Int) + 1)) = (j : Int) + 1 := rfl
       have h2 : intOf (.int .i64 (j : Int)) = (j : Int) := rfl
       rw [h1, h2]; omega
end Go.Proofs.YtfipdoofgbjbjaaGreat
