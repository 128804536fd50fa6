/- afterglowref13: Drain. No condition but sizes. -/
import Derived.Test.YtkdbmlddndgjjaaQr2
import Derived.Test.YtkdbmlddndgjjaaQd3
namespace Go.Proofs.Ytkdbmlddndgjjaa
open Go.RowKit
def RdPost (W : World) (r : Int × List Cb × List Int × Int) (e : Ending) (W' : World) : Prop :=
  ∃ A n c B m d, e = .returned (.tuple #[qv A n c r.1, .slice B m d]) ∧ Qown W' W.heap.size A n r.2.1 ∧ Ow u64v W' W.heap.size 23 B m d r.2.2.1 ∧ Below W.heap.size W W' ∧ n ≤ c
theorem Ow.grownN {α : Type} {enc : α → Value} {W W' : World} {row : Option Nat} {lo : Nat} {e : TypeId} {A : Option Addr} {n c : Nat} {xs : List α} (h : Ow enc W lo e A n c xs) (hg : W.grownBy W' row) (hr : ∀ k, row = some k → ∀ a, A = some a → a.block ≠ k) : Ow enc W' lo e A n c xs := by
  refine ⟨h.len, h.own.1, ?_⟩
  rcases h.own.2 with hh | ⟨g, cap, cur, hv, hb1, hgg, r⟩
  · exact .inl hh
  · refine .inr ⟨g, cap, cur, hv, hb1, (hg.block g (Array.getElem?_eq_some_iff.1 hgg).1 (fun e => ?_)).trans hgg, r⟩
    simp only [Value.slice.injEq] at hv
    exact hr g e.symm _ hv.1 rfl
theorem qdone_iff {o : Int} {xs : List Cb} {most : Int} (hg : QGood o xs) (hm : 0 ≤ most) {j : Nat} (hj : j < xs.length) :
    j < min (doneN o xs) most.toNat ↔ (perAt xs j ≤ o ∧ ((min j (min (doneN o xs) most.toNat) : Nat) : Int) < most) := by
  constructor
  · intro h
    exact ⟨doneN_lt (by omega), by omega⟩
  · rintro ⟨h1, h2⟩
    by_cases hj1 : j < doneN o xs
    · omega
    · exfalso
      have hup : ∀ d k, k + d < xs.length → perAt xs k ≤ perAt xs (k + d) := by
        intro d
        induction d with
        | zero => intro k _; exact Int.le_refl _
        | succ d ih =>
          intro k hk
          have h1 := ih k (by omega)
          have h2 := hg.2.2.1 (k + (d + 1)) hk (by omega)
          rw [show k + (d + 1) - 1 = k + d by omega] at h2
          omega
      have h3 := hup (j - doneN o xs) (doneN o xs) (by omega)
      rw [show doneN o xs + (j - doneN o xs) = j by omega] at h3
      exact doneN_stop (o := o) (xs := xs) ⟨by omega, by omega⟩
set_option maxHeartbeats 4000000 in
theorem qrdrain_any (A : Option Addr) (n c : Nat) (o : Int) (xs : List Cb) (most : Int) (w : World) (h : Sm 2 encC (0, 0) w 0 w.heap.size A n xs) (hn : n ≤ 1000000) (hm : 0 ≤ most) (hg : QGood o xs) :
    Calls Try.prog 16 #[qv A n c o, .int .i64 most] w (RdPost w (drainF o xs most)) := by
  have HE := hid (show drainF o xs most = (o, xs.drop (min (doneN o xs) most.toNat), (xs.take (min (doneN o xs) most.toNat)).map (·.2), 0) by rw [drainF, if_neg (not_not_intro hg), if_neg (by omega)])
  have hl := hid h.len
  have HI := hid (show ∀ j : Nat, j < xs.length → (j < min (doneN o xs) most.toNat ↔ (perAt xs j ≤ o ∧ ((min j (min (doneN o xs) most.toNat) : Nat) : Int) < most)) from fun j => qdone_iff (j := j) hg hm)
  have hkn := hid (show min (doneN o xs) most.toNat ≤ n by have := doneN_le o xs; have := h.len; omega)
  obtain ⟨K0, hK0⟩ : ∃ k, k = min (doneN o xs) most.toNat := ⟨_, rfl⟩
  rw [← hK0] at HE HI hkn
  have HG := hid hg; have HM := hid hm
  clear hg hK0 hm
  obtain ⟨i0, hi0, hz00, hz01, hz02⟩ := info_parts info_u64
  have HI0 := hid hi0; have HZ0 := hid hz00; have HZ1 := hid hz01; have HZ2 := hid hz02
  clear hi0 hz00 hz01 hz02
  obtain ⟨i0', hi0, hz00, hz01, hz02⟩ := info_parts info_cb
  have HJ0 := hid hi0; have HY0 := hid hz00; have HY1 := hid hz01; have HY2 := hid hz02
  clear hi0 hz00 hz01 hz02
  have HR := hid h; have HB := hid (Below.refl w.heap.size w)
  clear h
  have bx := below_box w (.cells (qcs A n c o) 25)
  replace HR := hid (HR.out.step bx); replace HB := hid (below_then HB.out bx)
  clear bx
  have PQ := hid (Blk.new w 25 (qcs A n c o))
  have bx := below_box (w.alloc (.cells (qcs A n c o) 25)) (.cells (qcs none 0 0 0) 25)
  replace HR := hid (HR.out.step bx); replace PQ := hid (PQ.out.step bx); replace HB := hid (below_then HB.out bx)
  clear bx
  have PZ := hid (Blk.new2 w 25 (qcs none 0 0 0) (.cells (qcs A n c o) 25))
  obtain ⟨y00, y01, yf0⟩ := PQ.out.cells2
  go_enter Try.func16, Try.ntmps16
  go_wp2_with fail
  clear y00 y01 yf0
  generalize (w.alloc (.cells (qcs A n c o) 25)).alloc (.cells (qcs none 0 0 0) 25) = W0 at *
  have XB := HB; have XQ := PQ; have XZ := PZ; have XR := HR; have H0 := hid (Below.refl W0.heap.size W0)
  have hz0 := hid PZ.out.lt
  go_loopw [6, 7, 13] (fun s6 s7 i wr => ∃ j m cg p cb : Nat, ∃ G B : Option Addr, ∃ K : Nat, j ≤ n ∧ i = .int .i64 j ∧ s6 = .slice G m cg ∧ s7 = .slice B p cb ∧ Om 2 encC wr K 53 G m cg ((xs.take j).drop K0) ∧ Ow u64v wr W0.heap.size 23 B p cb ((xs.take (min j K0)).map (·.2)) ∧ (j ≤ K0 → G = none ∧ cg = 0) ∧ W0.heap.size ≤ K ∧ K ≤ wr.heap.size ∧ (K0 < j → ∀ a, B = some a → a.block < K) ∧ Below W0.heap.size W0 wr) (fun _ _ i _ => n - (intOf i).toNat)
  case atStart => exact ⟨0, 0, 0, 0, 0, none, none, W0.heap.size, Nat.zero_le _, rfl, rfl, rfl, by rw [List.take_zero, List.drop_nil]; exact Om.nil _ _ _, by rw [Nat.zero_min, List.take_zero]; exact Ow.nil _ _ _, fun _ => ⟨rfl, rfl⟩, Nat.le_refl _, Nat.le_refl _, fun _ a e => (by cases e), H0.out⟩
  case round =>
    clear HB PQ PZ HR H0
    obtain ⟨j, m, cg, p, cb, G, B, K, hj, rfl, rfl, rfl, ho, hw, hG, hK1, hK2, hK3, hbr⟩ := hrel
    have HB := hid (below_then XB.out hbr); have PQ := hid (XQ.out.step hbr); have PZ := hid (XZ.out.step hbr); have HR := hid (XR.out.step hbr); have HBr := hid hbr
    have HO := hid ho; have HW := hid hw; have HGn := hid hG; have hk1 := hid hK1; have hk2 := hid hK2; have hk3 := hid hK3; have hs0 := hid hbr.size
    have hmL := hid ho.len; have hpL := hid hw.len
    clear ho hw hG hK1 hK2 hK3 hbr
    by_cases hjn : j < n
    · obtain ⟨b, off, rfl, _, hbh, hc⟩ := HR.out.row (by omega)
      obtain ⟨f0, f1⟩ := Sm.cb (lo := 0) (hi := wr.heap.size) hc hjn
      obtain ⟨⟨v0, v1⟩, hx⟩ : ∃ x, x = xs[j]?.getD (0, 0) := ⟨_, rfl⟩
      rw [← hx] at f0 f1
      have hjc : (j : Int) < (n : Int) := by omega
      have HX : Hid (perAt xs j = v0) := hid (by show (xs[j]?.getD (0, 0)).1 = v0; rw [← hx])
      have HTK : Hid (xs.take (j + 1) = xs.take j ++ [(v0, v1)]) := hid (by rw [hx, List.take_add_one, List.getElem?_eq_getElem (by rw [hl.out]; exact hjn)]; rfl)
      have HJ := hid (HI.out j (by rw [hl.out]; exact hjn))
      clear hx hc
      go_upto_region 6 with fail
      clear f0 f1
      have bx := below_box wr (.cells #[.int .u64 v0, .int .u64 v1] 53)
      replace PQ := hid (PQ.out.step bx); replace PZ := hid (PZ.out.step bx); replace HR := hid (HR.out.step bx); replace HO := hid (HO.out.step bx); replace HW := hid (HW.out.step bx); replace HB := hid (below_then HB.out bx); replace HBr := hid (below_then HBr.out bx)
      clear bx
      have PC := hid (Blk.new wr 53 #[.int .u64 v0, .int .u64 v1])
      have hz1 := hid (show (wr.alloc (.cells #[.int .u64 v0, .int .u64 v1] 53)).heap.size = wr.heap.size + 1 by simp)
      generalize wr.alloc (.cells #[.int .u64 v0, .int .u64 v1] 53) = W1 at *
      have hk2' := hid (show K ≤ W1.heap.size by have := hk2.out; have := hz1.out; omega)
      by_cases hjk : j < K0
      · have hle : v0 ≤ o := by have := (HJ.out.1 hjk).1; rwa [HX.out] at this
        have hpj : p = j := by rw [← hpL.out, List.length_map, List.length_take]; have := hl.out; omega
        have hlt : (p : Int) < most := by have := (HJ.out.1 hjk).2; omega
        have HPJ := hid hpj
        have hpb : p ≤ 1000000 := by omega
        clear hpj
        obtain ⟨rfl, rfl⟩ := HGn.out (by omega)
        have hi0 := HI0.out; have hz00 := HZ0.out; have hz01 := HZ1.out; have hz02 := HZ2.out
        obtain ⟨y00, y01, yf0⟩ := PQ.out.cells2
        obtain ⟨y10, y11, yf1⟩ := PC.out.cells2
        go_wp2_with (at_builtin; refine wpList_app u64v 0 _ rfl _ _ 26 rfl W0.heap.size 23 i0 _ 8 Try.underlying26 hi0 hz00 hz01 hz02 rfl B p cb _ rfl (HW.out.alloc _) W1.heap.size (W1.heap.size + 1) _ 1 _ [v1] rfl (Sl.one' (by simp)) (fun _ => rfl) (by simp only [maxLen]; omega) (by omega) (by have := hs0.out; have := hz1.out; simp; omega) ?_; intro B' cb' w7 own7 hg7 hat7; have hrow := hid HW.out.row_ge; have hb7 := hid (((Below.refl W0.heap.size W1).alloc (by have := hs0.out; have := hz1.out; omega) (.cells #[.int .u64 v1] 23)).grown hg7 (by have := hs0.out; have := hz1.out; simp; omega) (fun r e => hrow.out r e)); have OWN7 := hid own7; have HG7 := hid hg7; clear own7 hg7 hat7 hrow)
        clear hi0 hz00 hz01 hz02 hle hlt y00 y01 yf0 y10 y11 yf1
        go_roundw
        case rel =>
          have hs7 := HG7.out.size
          refine ⟨j + 1, m, 0, p + 1, cb', none, B', w7.heap.size, by omega, by go_num, rfl, rfl, ?_, ?_, fun _ => ⟨rfl, rfl⟩, by have := hb7.out.size; have := hs0.out; have := hz1.out; simp at hs7; omega, Nat.le_refl _, fun h => absurd h (by omega), HBr.out.trans hb7.out⟩
          · have e0 : m = 0 := by rw [← hmL.out, List.length_drop, List.length_take]; omega
            subst e0
            have e1 : (xs.take (j + 1)).drop K0 = [] := List.drop_eq_nil_of_le (by rw [List.length_take]; omega)
            rw [e1]
            exact Om.nil _ _ _
          · have := OWN7.out
            rwa [show ((xs.take (min j K0)).map (·.2)) ++ [v1] = (xs.take (min (j + 1) K0)).map (·.2) by
              rw [Nat.min_eq_left (by omega), Nat.min_eq_left (by omega), HTK.out]; simp] at this
        case measure => simp [intOf]; omega
      · have hi0 := HJ0.out; have hz00 := HY0.out; have hz01 := HY1.out; have hz02 := HY2.out
        have hmj : m = j - K0 := by rw [← hmL.out, List.length_drop, List.length_take]; have := hl.out; omega
        have hK3 := hid (show ∀ a, B = some a → a.block < W1.heap.size from fun a ha => by subst ha; exact (HW.out.own.lt a.block rfl).2)
        have HC2 : Hid (∀ q, q < 2 → (#[.int .u64 v0, .int .u64 v1] : Array Value)[q]? = some (encC (v0, v1) q)) := hid (by intro q hq; match q, hq with | 0, _ => rfl | 1, _ => rfl)
        obtain ⟨K2, hK2⟩ : ∃ K2, Hid (Om 2 encC W1 K2 53 G m cg ((xs.take j).drop K0) ∧ W0.heap.size ≤ K2 ∧ K2 ≤ W1.heap.size ∧ ∀ a, B = some a → a.block < K2) := by
          by_cases hjk2 : K0 < j
          · exact ⟨K, hid ⟨HO.out, hk1.out, hk2'.out, hk3.out hjk2⟩⟩
          · obtain ⟨rfl, rfl⟩ := HGn.out (by omega)
            obtain rfl : m = 0 := by omega
            exact ⟨W1.heap.size, hid ⟨by have := HO.out.len; rw [List.eq_nil_of_length_eq_zero this]; exact Om.nil _ _ _, by have := hs0.out; have := hz1.out; omega, Nat.le_refl _, hK3.out⟩⟩
        have hO2 := hid hK2.out.1; have hK21 := hid hK2.out.2.1; have hK22 := hid hK2.out.2.2.1; have hK23 := hid hK2.out.2.2.2
        have HMJ := hid hmj
        have hmb : m ≤ 1000000 := by omega
        clear hmj
        have hnle : v0 ≤ o → ¬ (p : Int) < most := fun h1 h2 => hjk (HJ.out.2 ⟨by rw [HX.out]; exact h1, by rw [← hpL.out, List.length_map, List.length_take] at h2; have := hl.out; omega⟩)
        have HNLE := hid hnle
        clear hnle
        by_cases hle : v0 ≤ o
        · have hlt := HNLE.out hle
          obtain ⟨y00, y01, yf0⟩ := PQ.out.cells2
          obtain ⟨y10, y11, yf1⟩ := PC.out.cells2
          go_wp2_with (at_builtin; refine wpList_appm 2 encC (0, 0) _ rfl _ _ 22 rfl K2 53 i0' _ 16 Try.underlying22 hi0 hz00 hz01 hz02 rfl (by omega) G m cg _ rfl (hO2.out.alloc _) 0 (W1.alloc (.cells #[.int .u64 v0, .int .u64 v1] 53)).heap.size _ 1 _ [(v0, v1)] rfl (Sm.one (v0, v1) rfl HC2.out) encC_one (by simp only [maxLen]; omega) (by omega) (by have := hK22.out; simp; omega) ?_; intro G' cg' w7 own7 hg7 hat7; have hrow := hid hO2.out.row_ge; have hb7 := hid (((Below.refl W0.heap.size W1).alloc (by have := hs0.out; have := hz1.out; omega) (.cells #[.int .u64 v0, .int .u64 v1] 53)).grown hg7 (by have := hs0.out; have := hz1.out; simp; omega) (fun r e => Nat.le_trans hK21.out (hrow.out r e))); have OWN7 := hid own7; have HG7 := hid hg7; have HW7 := hid ((HW.out.alloc (.cells #[.int .u64 v0, .int .u64 v1] 53)).grownN hg7 (fun k hk a ha => by have := hrow.out k hk; have := hK23.out a ha; omega)); clear own7 hg7 hat7 hrow)
          clear hi0 hz00 hz01 hz02 hle hlt y00 y01 yf0 y10 y11 yf1
          go_roundw
          case rel =>
            have hs7 := HG7.out.size
            refine ⟨j + 1, m + 1, cg', p, cb, G', B, K2, by omega, by go_num, rfl, rfl, ?_, ?_, fun h => absurd h (by omega), hK21.out, by have := hK22.out; simp at hs7; omega, fun _ => hK23.out, HBr.out.trans hb7.out⟩
            · have := OWN7.out
              rwa [show (xs.take j).drop K0 ++ [(v0, v1)] = (xs.take (j + 1)).drop K0 by
                rw [HTK.out, List.drop_append_of_le_length (by rw [List.length_take]; have := hl.out; omega)]] at this
            · have := HW7.out
              rwa [show min j K0 = min (j + 1) K0 by omega] at this
          case measure => simp [intOf]; omega
        · skip
          obtain ⟨y00, y01, yf0⟩ := PQ.out.cells2
          obtain ⟨y10, y11, yf1⟩ := PC.out.cells2
          go_wp2_with (at_builtin; refine wpList_appm 2 encC (0, 0) _ rfl _ _ 22 rfl K2 53 i0' _ 16 Try.underlying22 hi0 hz00 hz01 hz02 rfl (by omega) G m cg _ rfl (hO2.out.alloc _) 0 (W1.alloc (.cells #[.int .u64 v0, .int .u64 v1] 53)).heap.size _ 1 _ [(v0, v1)] rfl (Sm.one (v0, v1) rfl HC2.out) encC_one (by simp only [maxLen]; omega) (by omega) (by have := hK22.out; simp; omega) ?_; intro G' cg' w7 own7 hg7 hat7; have hrow := hid hO2.out.row_ge; have hb7 := hid (((Below.refl W0.heap.size W1).alloc (by have := hs0.out; have := hz1.out; omega) (.cells #[.int .u64 v0, .int .u64 v1] 53)).grown hg7 (by have := hs0.out; have := hz1.out; simp; omega) (fun r e => Nat.le_trans hK21.out (hrow.out r e))); have OWN7 := hid own7; have HG7 := hid hg7; have HW7 := hid ((HW.out.alloc (.cells #[.int .u64 v0, .int .u64 v1] 53)).grownN hg7 (fun k hk a ha => by have := hrow.out k hk; have := hK23.out a ha; omega)); clear own7 hg7 hat7 hrow)
          clear hi0 hz00 hz01 hz02 hle y00 y01 yf0 y10 y11 yf1
          go_roundw
          case rel =>
            have hs7 := HG7.out.size
            refine ⟨j + 1, m + 1, cg', p, cb, G', B, K2, by omega, by go_num, rfl, rfl, ?_, ?_, fun h => absurd h (by omega), hK21.out, by have := hK22.out; simp at hs7; omega, fun _ => hK23.out, HBr.out.trans hb7.out⟩
            · have := OWN7.out
              rwa [show (xs.take j).drop K0 ++ [(v0, v1)] = (xs.take (j + 1)).drop K0 by
                rw [HTK.out, List.drop_append_of_le_length (by rw [List.length_take]; have := hl.out; omega)]] at this
            · have := HW7.out
              rwa [show min j K0 = min (j + 1) K0 by omega] at this
          case measure => simp [intOf]; omega
    · obtain rfl : j = n := by omega
      obtain ⟨u0, u1, uf⟩ := PQ.out.cells2
      obtain ⟨v0, v1, vf⟩ := (PQ.out.setCell 0 (.slice G m cg)).cells2
      obtain ⟨z0, z1, zf⟩ := PZ.out.cells2
      obtain ⟨q0, q1, qf⟩ := (((PZ.out.far (p := ⟨w.heap.size, 0, none⟩) (by simp) (.slice G m cg)).setCell 0 (.slice G m cg)).setCell 1 (.int .u64 o)).cells2
      go_wp2_with fail
      refine bodyPost_ret (v := .tuple #[qv G m cg o, .slice B p cb]) (by simp [results, Try.results16, go_sem, q0, q1]) rfl ?_
      rw [HE.out]
      have hz0' := hz0.out
      have hk1' := hk1.out
      refine ⟨G, m, cg, B, p, cb, rfl, ?_, ?_, ?_, HO.out.cap.1⟩
      · have o2 := HO.out
        rw [List.take_of_length_le (by rw [hl.out]; exact Nat.le_refl _)] at o2
        exact ((((Qown.ofOm o2).setCell (p := ⟨w.heap.size, 0, none⟩) (by show w.heap.size < K; omega) _).setCell (p := ⟨w.heap.size + 1, 0, none⟩) (by show w.heap.size + 1 < K; omega) _).setCell (p := ⟨w.heap.size + 1, 1, none⟩) (by show w.heap.size + 1 < K; omega) _).mono (by omega)
      · have o2 := HW.out
        rw [Nat.min_eq_right hkn.out] at o2
        exact (((o2.setCell (p := ⟨w.heap.size, 0, none⟩) (by show w.heap.size < _; omega) _).setCell (p := ⟨w.heap.size + 1, 0, none⟩) (by show w.heap.size + 1 < _; omega) _).setCell (p := ⟨w.heap.size + 1, 1, none⟩) (by show w.heap.size + 1 < _; omega) _).mono (by omega)
      · exact ((HB.out.setCell (Nat.le_refl _) _).setCell (by simp) _).setCell (by simp) _
end Go.Proofs.Ytkdbmlddndgjjaa
