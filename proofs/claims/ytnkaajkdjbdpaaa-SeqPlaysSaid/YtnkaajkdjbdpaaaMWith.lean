/- afterglowref02: with. No condition but sizes. -/
import Derived.Test.YtnkaajkdjbdpaaaMRef
import Derived.Test.YtnkaajkdjbdpaaaKitA
import Derived.Deep.CutBlock
namespace Go.Proofs.Ytnkaajkdjbdpaaa
open Go.RowKit
/-- a memory of its own -/
def RPost (W : World) (r : MSt) (e : Ending) (W' : World) : Prop :=
  ∃ A n c B m d, e = .returned (mv A n c B m d r.2.2) ∧ Mown W' W.heap.size A n c B m d r.1 r.2.1 ∧ Below W.heap.size W W'
/-- in the loop of with -/
structure WithRel (w wr : World) (A : Option Addr) (n c : Nat) (B : Option Addr) (m d : Nat) (f : Bool) (G : Option Addr) (j cg : Nat) (H : Option Addr) (ch : Nat) (xs : List Int) (ys : List Bool) : Prop where
  p4 : Blk wr w.heap.size 44 (mcs A n c B m d f)
  p8 : Blk wr (w.heap.size + 1) 44 (mcs none 0 0 none 0 0 false)
  p9 : Blk wr (w.heap.size + 2) 44 (mcs G j cg H j ch f)
  om : Mown wr (w.heap.size + 3) G j cg H j ch xs ys
  be : Below w.heap.size w wr

theorem step_appq {P : Program} {α : Type} (enc : α → Value) (d : α) (w : World) {ops : Array Oper} {o : Oper} {a : Act} {K : Act → World → Prop} {Q : Exit → Act → World → Prop} {E : Prop} (hg : o.guard = none) (s x : Operand) (t : TypeId)
    (hop : o.op = .call { callee := .builtin .append, args := #[s, x], argTypes := #[t, t] })
    (base : Nat) (e : TypeId) (i : TypeInfo) (z : Value) (bytes : Nat) (ht : P.underlying t = some (.slice e)) (hi : P.info? e = some i) (hz : i.zero = some z)
    (hsize : i.size = 1) (hby : i.bytes = bytes) (hzs : z.cells.size = 1)
    (A0 : Option Addr) (n c0 : Nat) (xs : List α) (hs : a.eval s = .slice A0 n c0) (hown : Ow enc w base e A0 n c0 xs)
    (L : Nat) (A : Option Addr) (m c : Nat) (ys : List α) (hx : a.eval x = .slice A m c) (hr : Sl enc d w L w.heap.size A m ys) (h1 : ∀ y, (enc y).oneCell' = true)
    (h63 : n + m ≤ maxLen) (hbytes : (n + m) * bytes ≤ 140737488355328) (hbase : base ≤ w.heap.size)
    (hK : ∀ A' c' w', Ow enc w' base e A' (n + m) c' (xs ++ ys) → w.grownBy w' (Value.slice A0 n c0).ownBlock → ((Value.slice A' (n + m) c').ownBlock = (Value.slice A0 n c0).ownBlock ∨ (Value.slice A' (n + m) c').ownBlock = some w.heap.size) →
      K (a.put o.dst (.slice A' (n + m) c')) w') :
    if Region.wanted o (yielded ops a.tmps) = true then Oper.wp P o a w K Q else E :=
  step_app enc d w hg s x t hop base e i z bytes ht hi hz hsize hby hzs A0 n c0 xs hs hown L w.heap.size A m c ys hx hr h1 h63 hbytes hbase hK
section
variable {α : Type} {enc : α → Value} {d : α} {w w' : World} {L : Nat} {A : Option Addr} {n : Nat} {xs : List α}
theorem slq_one {e : TypeId} {x : α} {g : Nat} (hg : g = w.heap.size) (hL : L ≤ w.heap.size) : Sl enc d (w.alloc (.cells #[enc x] e)) L (w.alloc (.cells #[enc x] e)).heap.size (some ⟨g, 0, none⟩) 1 [x] :=
  (Sl.one' hg).mono (by omega) (by simp; omega)
theorem slq_alloc (h : Sl enc d w L w.heap.size A n xs) (o : Obj) : Sl enc d (w.alloc o) L (w.alloc o).heap.size A n xs := (h.alloc (Nat.le_refl _) o).mono (Nat.le_refl _) (by simp)
theorem slq_drew (h : Sl enc d w L w.heap.size A n xs) : Sl enc d w.drew L w.drew.heap.size A n xs := h.drew
theorem slq_grown {row : Option Nat} (h : Sl enc d w L w.heap.size A n xs) (hg : w.grownBy w' row) (hr : ∀ k, row = some k → k < L) : Sl enc d w' L w'.heap.size A n xs :=
  (h.keep fun b o h1 h2 => hg.cell_far ⟨b, o, none⟩ h2 (fun he => by have := hr b he.symm; omega)).mono (Nat.le_refl _) hg.size
end
section
variable {W W' : World} {lo : Nat} {A A' : Option Addr} {n c n' c' : Nat} {B B' : Option Addr} {m d m' d' : Nat} {ws ws' : List Int} {ls ls' : List Bool}
theorem Ow.grownrow {α : Type} {enc : α → Value} {e : TypeId} {xs : List α} {row : Option Nat} (h : Ow enc W lo e A n c xs) (hg : W.grownBy W' row) (hr : ∀ k, A.map (·.block) = some k → row ≠ some k) : Ow enc W' lo e A n c xs := by
  refine ⟨h.len, h.own.1, ?_⟩
  rcases h.own.2 with hh | ⟨g, cap, cur, hv, hb1, hgg, r⟩
  · exact .inl hh
  · refine .inr ⟨g, cap, cur, hv, hb1, (hg.block g (Array.getElem?_eq_some_iff.1 hgg).1 (fun he => ?_)).trans hgg, r⟩
    simp only [Value.slice.injEq] at hv
    obtain ⟨rfl, _⟩ := hv
    exact hr g rfl he.symm
theorem ownBlock_map (A : Option Addr) (n c : Nat) : (Value.slice A n c).ownBlock = A.map (·.block) := by cases A <;> rfl
theorem Mown.appA (h : Mown W lo A n c B m d ws ls) (hlo : lo ≤ W.heap.size) (hg : W.grownBy W' (Value.slice A n c).ownBlock) (hat : (Value.slice A' n' c').ownBlock = (Value.slice A n c).ownBlock ∨ (Value.slice A' n' c').ownBlock = some W.heap.size) (ho : Ow u64v W' lo 27 A' n' c' ws') (hn : n' ≤ 100000) : Mown W' lo A' n' c' B m d ws' ls := by
  simp only [ownBlock_map] at hg hat
  refine ⟨ho, h.ob.grownrow hg (fun k hk he => ?_), fun a b ha hb => ?_, hn, h.hm⟩
  · cases A with
    | none => simp at he
    | some a =>
      cases B with
      | none => simp at hk
      | some b => simp at hk he; exact h.apart a b rfl rfl (by omega)
  · subst ha hb
    rcases hat with hq | hq
    · cases A with
      | none => simp at hq
      | some a' => simp at hq; rw [hq]; exact h.apart a' b rfl rfl
    · simp at hq
      have hlt := h.ob.own.lt
      have : b.block < W.heap.size := by have := (hlt b.block rfl).2; exact this
      omega
theorem Mown.appB (h : Mown W lo A n c B m d ws ls) (hlo : lo ≤ W.heap.size) (hg : W.grownBy W' (Value.slice B m d).ownBlock) (hat : (Value.slice B' m' d').ownBlock = (Value.slice B m d).ownBlock ∨ (Value.slice B' m' d').ownBlock = some W.heap.size) (ho : Ow blv W' lo 4 B' m' d' ls') (hm : m' ≤ 100000) : Mown W' lo A n c B' m' d' ws ls' := by
  simp only [ownBlock_map] at hg hat
  refine ⟨h.oa.grownrow hg (fun k hk he => ?_), ho, fun a b ha hb => ?_, h.hn, hm⟩
  · cases B with
    | none => simp at he
    | some b =>
      cases A with
      | none => simp at hk
      | some a => simp at hk he; exact h.apart a b rfl rfl (by omega)
  · subst ha hb
    rcases hat with hq | hq
    · cases B with
      | none => simp at hq
      | some b' => simp at hq; rw [hq]; exact h.apart a b' rfl rfl
    · simp at hq
      have hlt := h.oa.own.lt
      have : a.block < W.heap.size := by have := (hlt a.block rfl).2; exact this
      omega
end
theorem take_set_succ {α : Type} (l : List α) (k j : Nat) (v d : α) (hj : j < l.length) : (l.set k v).take (j + 1) = (l.set k v).take j ++ [if j = k then v else l[j]?.getD d] := by
  have hj' : j < (l.set k v).length := by simpa using hj
  rw [List.take_succ_eq_append_getElem hj']
  congr 2
  rw [List.getElem_set]
  by_cases h : k = j
  · rw [if_pos h, if_pos h.symm]
  · rw [if_neg h, if_neg (Ne.symm h), List.getElem?_eq_getElem hj]; rfl

set_option maxRecDepth 10000 in
set_option maxHeartbeats 16000000 in
theorem rwith_any (A : Option Addr) (n c : Nat) (B : Option Addr) (m d : Nat) (f : Bool) (ws : List Int) (ls : List Bool) (k : Nat) (x : Int) (y : Bool) (w : World) (h : Mem w A n c B m d ws ls) (hnm : m = n) (hk : k < n) :
    Calls Try.prog 75 #[mv A n c B m d f, .int .i64 k, .int .u64 x, .bool y] w (RPost w (ws.set k x, ls.set k y, f)) := by
  have hB := below_then (below_then (below_box w (.cells (mcs A n c B m d f) 44)) (below_box _ (.cells (mcs none 0 0 none 0 0 false) 44))) (below_box _ (.cells (mcs none 0 0 none 0 0 f) 44))
  have P4 := ((Blk.new w 44 (mcs A n c B m d f)).step (below_box _ (.cells (mcs none 0 0 none 0 0 false) 44))).step (below_box _ (.cells (mcs none 0 0 none 0 0 f) 44))
  have P8 := (Blk.new2 w 44 (mcs none 0 0 none 0 0 false) (.cells (mcs A n c B m d f) 44)).step (below_box _ (.cells (mcs none 0 0 none 0 0 f) 44))
  have P9 := Blk.new3 w 44 (mcs none 0 0 none 0 0 f) (.cells (mcs A n c B m d f) 44) (.cells (mcs none 0 0 none 0 0 false) 44)
  subst hnm
  have HR := hid (h.step hB); have HR0 := hid h
  have hn := h.hn
  have HP4 := hid P4; have HP8 := hid P8; have HP9 := hid P9; have HB := hid hB
  obtain ⟨k0, k1, k2, kf⟩ := ((Blk.new w 44 (mcs A m c B m d f)).step (below_box _ (.cells (mcs none 0 0 none 0 0 false) 44))).cells3
  clear h P4 P8 P9 hB
  go_enter Try.func75, Try.ntmps75
  go_wp2_with fail
  clear k0 k1 k2 kf
  obtain ⟨i0, hi0, hz00, hz01, hz02⟩ := info_parts info_u64
  obtain ⟨i1, hi1, hz10, hz11, hz12⟩ := info_parts info_bool
  go_loopw [17] (fun i wr => ∃ j : Nat, ∃ G cg H ch, j ≤ m ∧ i = .int .i64 j ∧ WithRel w wr A m c B m d f G j cg H ch ((ws.set k x).take j) ((ls.set k y).take j)) (fun i _ => m - (intOf i).toNat)
  case atStart => exact ⟨0, none, 0, none, 0, Nat.zero_le _, rfl, ⟨HP4.out, HP8.out, HP9.out, Mown.none _ _, HB.out⟩⟩
  case round =>
    obtain ⟨j, G, cg, H, ch, hj, rfl, hr⟩ := hrel
    have HRR := hid hr
    by_cases hjl : j < m
    · have hlw := hid HR.out.lenx; have hll := hid HR.out.leny
      have HX := hid (take_set_succ ws k j x 0 (by rw [hlw.out]; exact hjl))
      have HY := hid (take_set_succ ls k j y false (by rw [hll.out]; exact hjl))
      obtain ⟨k0, k1, k2, kf⟩ := hr.p9.cells3
      have hlo := hr.p9.lt
      generalize (ws.set k x).take j = xs at *
      generalize (ls.set k y).take j = ys at *
      go_upto_block 1 with fail
      clear hr k0 k1 k2 kf
      go_cut [27] (fun s27 wx => ∃ G' cg' H' ch', WithRel w wx A m c B m d f G' (j + 1) cg' H' ch' ((ws.set k x).take (j + 1)) ((ls.set k y).take (j + 1)))
      case first =>
        have HM := hid HRR.out.om
        have hlo3 : w.heap.size + 3 ≤ wr.heap.size := by omega
        obtain ⟨k0, k1, k2, kf⟩ := HRR.out.p9.cells3
        have ka0 := fun o => (HRR.out.p9.alloc o).cells3.1; have ka1 := fun o => (HRR.out.p9.alloc o).cells3.2.1
        have kb0 := fun o o' => ((HRR.out.p9.alloc o).alloc o').cells3.1; have kb1 := fun o o' => ((HRR.out.p9.alloc o).alloc o').cells3.2.1
        obtain ⟨b, off, hAe, _, hbb, hc⟩ := HR.out.hx.row (by omega)
        obtain ⟨b', off', hBe, _, hbb', hc'⟩ := HR.out.hy.row (by omega)
        have g0 := hc j hjl
        have g1 := hc' j hjl
        obtain ⟨xj, hxj⟩ : ∃ z, z = ws[j]?.getD 0 := ⟨_, rfl⟩
        obtain ⟨yj, hyj⟩ : ∃ z, z = ls[j]?.getD false := ⟨_, rfl⟩
        rw [← hxj] at g0 HX
        rw [← hyj] at g1 HY
        have hbl : b < w.heap.size := by
          rcases HR0.out.hx.row (by omega) with ⟨b2, off2, he, _, h2, _⟩
          rw [hAe] at he
          simp at he
          omega
        have hbl' : b' < w.heap.size := by
          rcases HR0.out.hy.row (by omega) with ⟨b2, off2, he, _, h2, _⟩
          rw [hBe] at he
          simp at he
          omega
        have HG0 : Hid (∀ W, Below w.heap.size w W → W.cell? ⟨b, off + j, none⟩ = some (u64v xj) ∧ W.cell? ⟨b', off' + j, none⟩ = some (blv yj)) := hid (fun W hb => ⟨(hb.cell (p := ⟨b, off + j, none⟩) hbl).trans ((HB.out.cell (p := ⟨b, off + j, none⟩) hbl).symm.trans g0), (hb.cell (p := ⟨b', off' + j, none⟩) hbl').trans ((HB.out.cell (p := ⟨b', off' + j, none⟩) hbl').symm.trans g1)⟩)
        clear g0 g1 hc hc' hxj hyj hbb hbb' hbl hbl'
        subst hAe hBe
        obtain ⟨SS, hSS⟩ : ∃ SS : World → Prop, SS = fun w' => w'.cell? ⟨w.heap.size + 1 + 1, 0, none⟩ = some (.slice G j cg) ∧ w'.cell? ⟨w.heap.size + 1 + 1, 1, none⟩ = some (.slice H j ch) ∧ w'.cell? ⟨w.heap.size, 0, none⟩ = some (.slice (some ⟨b, off, none⟩) m c) ∧ w'.cell? ⟨w.heap.size, 1, none⟩ = some (.slice (some ⟨b', off', none⟩) m d) ∧ w'.cell? ⟨b, off + j, none⟩ = some (.int .u64 xj) ∧ w'.cell? ⟨b', off' + j, none⟩ = some (.bool yj) := ⟨_, rfl⟩
        have SSout : Hid (∀ w', SS w' → w'.cell? ⟨w.heap.size + 1 + 1, 0, none⟩ = some (.slice G j cg) ∧ w'.cell? ⟨w.heap.size + 1 + 1, 1, none⟩ = some (.slice H j ch) ∧ w'.cell? ⟨w.heap.size, 0, none⟩ = some (.slice (some ⟨b, off, none⟩) m c) ∧ w'.cell? ⟨w.heap.size, 1, none⟩ = some (.slice (some ⟨b', off', none⟩) m d) ∧ w'.cell? ⟨b, off + j, none⟩ = some (.int .u64 xj) ∧ w'.cell? ⟨b', off' + j, none⟩ = some (.bool yj)) := hid (fun w' h => by rw [hSS] at h; exact h)
        have HSW : Hid (∀ W, Blk W (w.heap.size + 2) 44 (mcs G j cg H j ch f) → Blk W w.heap.size 44 (mcs (some ⟨b, off, none⟩) m c (some ⟨b', off', none⟩) m d f) → Below w.heap.size w W → SS W) := hid (fun W h h4 hb => by rw [hSS]; exact ⟨h.cells3.1, h.cells3.2.1, h4.cells3.1, h4.cells3.2.1, (HG0.out W hb).1, (HG0.out W hb).2⟩)
        have HS0 := hid (HSW.out _ HRR.out.p9.drew HRR.out.p4.drew HRR.out.be.drew)
        have HMlt : Hid (∀ q, (Value.slice G j cg).ownBlock = some q → q < wr.heap.size) := hid (fun q hq => (HRR.out.om.oa.own.lt q hq).2)
        clear hSS ka0 ka1 kb0 kb1
        by_cases hjk : j = k
        · rw [if_pos hjk] at HX HY
          have e1 : ((j : Int) == (k : Int)) = true := by simp [hjk]
          clear hjk
          go_upto_region 6 with fail
          refine wp_region_noPanic ?_
          refine wp_region_held_tail 11 SS #[false, false, false, false, false, false, false, false, false, false, false, false, false, false] (by kernel_rfl) (HS0.out) (by kernel_rfl) (by kernel_rfl) (fun hS => ?_)
          refine wpAnyT_take (i := 0) (v := ?_) (by kernel_rfl) rfl (by kernel_rfl) (fun _ _ _ h => h) (Or.inl ⟨by rfl, ?_⟩) hS ?_
          rotate_left
          · intro w' hSw; have hs := SSout.out w' hSw; have hs0 := hs.1; have hs1 := hs.2.1; have hs2 := hs.2.2.1; have hs3 := hs.2.2.2.1; have hs4 := hs.2.2.2.2.1; have hs5 := hs.2.2.2.2.2; clear hs; go_simp; (try with_reducible rfl)
          (try simp only [Act.put, List.setIfInBounds_toArray, List.set_cons_zero, List.set_cons_succ])
          refine wpAnyT_take (i := 2) (v := ?_) (by kernel_rfl) rfl (by kernel_rfl) (fun _ _ _ h => h) (Or.inl ⟨by rfl, ?_⟩) hS ?_
          rotate_left
          · intro w' hSw; have hs := SSout.out w' hSw; have hs0 := hs.1; have hs1 := hs.2.1; have hs2 := hs.2.2.1; have hs3 := hs.2.2.2.1; have hs4 := hs.2.2.2.2.1; have hs5 := hs.2.2.2.2.2; clear hs; go_simp; (try with_reducible rfl)
          (try simp only [Act.put, List.setIfInBounds_toArray, List.set_cons_zero, List.set_cons_succ])
          refine wpAnyT_take (i := 5) (v := ?_) (by kernel_rfl) rfl (by kernel_rfl) (fun _ _ _ h => h) (Or.inl ⟨by rfl, ?_⟩) hS ?_
          rotate_left
          · intro w' hSw; have hs := SSout.out w' hSw; have hs0 := hs.1; have hs1 := hs.2.1; have hs2 := hs.2.2.1; have hs3 := hs.2.2.2.1; have hs4 := hs.2.2.2.2.1; have hs5 := hs.2.2.2.2.2; clear hs; go_simp; (try with_reducible rfl)
          (try simp only [Act.put, List.setIfInBounds_toArray, List.set_cons_zero, List.set_cons_succ])
          refine wpAnyT_take (i := 7) (v := ?_) (by kernel_rfl) rfl (by kernel_rfl) (fun _ _ _ h => h) (Or.inl ⟨by rfl, ?_⟩) hS ?_
          rotate_left
          · intro w' hSw; have hs := SSout.out w' hSw; have hs0 := hs.1; have hs1 := hs.2.1; have hs2 := hs.2.2.1; have hs3 := hs.2.2.2.1; have hs4 := hs.2.2.2.2.1; have hs5 := hs.2.2.2.2.2; clear hs; go_simp; (try with_reducible rfl)
          (try simp only [Act.put, List.setIfInBounds_toArray, List.set_cons_zero, List.set_cons_succ])
          refine wpAnyT_take (i := 1) (v := ?_) (by kernel_rfl) rfl (by kernel_rfl) (fun _ _ _ h => h) (Or.inl ⟨by rfl, ?_⟩) hS ?_
          rotate_left
          · intro w' hSw; have hs := SSout.out w' hSw; have hs0 := hs.1; have hs1 := hs.2.1; have hs2 := hs.2.2.1; have hs3 := hs.2.2.2.1; have hs4 := hs.2.2.2.2.1; have hs5 := hs.2.2.2.2.2; clear hs; go_simp; (try with_reducible rfl)
          (try simp only [Act.put, List.setIfInBounds_toArray, List.set_cons_zero, List.set_cons_succ])
          refine wpAnyT_take (i := 6) (v := ?_) (by kernel_rfl) rfl (by kernel_rfl) (fun _ _ _ h => h) (Or.inl ⟨by rfl, ?_⟩) hS ?_
          rotate_left
          · intro w' hSw; have hs := SSout.out w' hSw; have hs0 := hs.1; have hs1 := hs.2.1; have hs2 := hs.2.2.1; have hs3 := hs.2.2.2.1; have hs4 := hs.2.2.2.2.1; have hs5 := hs.2.2.2.2.2; clear hs; go_simp; (try with_reducible rfl)
          (try simp only [Act.put, List.setIfInBounds_toArray, List.set_cons_zero, List.set_cons_succ])
          clear hS
          refine wpAnyT_ready [3, 8] (by kernel_rfl) (by simp) ?_
          refine AllReadyT.cons rfl rfl (fun K hK => ?_) ?_
          · skip
            go_simp
            refine hK.out _ _ ?_ ?_
            · exact HSW.out _ (show Blk _ (w.heap.size + 2) 44 (mcs G j cg H j ch f) from (by repeat (first | (with_reducible exact HRR.out.p9) | (with_reducible exact B97.out) | (with_reducible refine Blk.alloc ?_ _) | (with_reducible refine Blk.drew ?_)))) (show Blk _ (w.heap.size) 44 (mcs (some ⟨b, off, none⟩) m c (some ⟨b', off', none⟩) m d f) from (by repeat (first | (with_reducible exact HRR.out.p4) | (with_reducible exact B47.out) | (with_reducible refine Blk.alloc ?_ _) | (with_reducible refine Blk.drew ?_)))) (show Below w.heap.size w _ from (by repeat (first | (with_reducible exact HRR.out.be) | (with_reducible exact HBE7.out) | (with_reducible refine Below.alloc ?_ (by first | omega | (simp; done) | (simp; omega) | (simp only [World.size_alloc, World.size_drew]; omega)) _) | (with_reducible refine Below.drew ?_))))
            clear hK K
            (try simp only [Act.put, List.setIfInBounds_toArray, List.set_cons_zero, List.set_cons_succ])
            refine wpAnyT_ready [4, 8] (by kernel_rfl) (by simp) ?_
            refine AllReadyT.cons rfl rfl (fun K hK => ?_) ?_
            · skip
              refine' step_appq u64v 0 _ rfl _ _ 24 rfl (w.heap.size + 3) 27 i0 _ 8 Try.underlying24 hi0 hz00 hz01 hz02 rfl G j cg xs rfl ?hown2n11 wr.heap.size _ 1 _ [x] rfl ?hr2n11 (fun _ => rfl) (by simp only [maxLen]; omega) (by omega) ?hb2n11 ?hK2n11
              case hown2n11 => exact (show Mown _ (w.heap.size + 3) G j cg H j ch xs ys from (by repeat (first | (with_reducible exact HM.out) | (with_reducible refine Mown.alloc ?_ _) | (with_reducible refine Mown.drew ?_)))).oa
              case hr2n11 => (repeat (first | (with_reducible exact slq_one (by first | omega | (simp; done) | (simp; omega) | (simp only [World.size_alloc, World.size_drew]; omega)) (by first | omega | (simp; done) | (simp; omega) | (simp only [World.size_alloc, World.size_drew]; omega))) | (with_reducible exact slq_one rfl (by first | omega | (simp; done) | (simp; omega) | (simp only [World.size_alloc, World.size_drew]; omega))) | (with_reducible refine slq_drew ?_) | (with_reducible refine slq_alloc ?_ _) | (with_reducible refine slq_grown ?_ hg1 (fun k hk => HMlt.out k hk))))
              case hb2n11 => (first | omega | (simp; done) | (simp; omega) | (simp only [World.size_alloc, World.size_drew]; omega))
              intro G' cg' w7 og1 hg1 hat1
              have HM7 := hid (Mown.appA (show Mown _ (w.heap.size + 3) G j cg H j ch xs ys from (by repeat (first | (with_reducible exact HM.out) | (with_reducible refine Mown.alloc ?_ _) | (with_reducible refine Mown.drew ?_)))) (by first | omega | (simp; done) | (simp; omega) | (simp only [World.size_alloc, World.size_drew]; omega)) hg1 hat1 og1 (by omega))
              have B97 := hid (Blk.grown (show Blk _ (w.heap.size + 2) 44 (mcs G j cg H j ch f) from (by repeat (first | (with_reducible exact HRR.out.p9) | (with_reducible exact B97.out) | (with_reducible refine Blk.alloc ?_ _) | (with_reducible refine Blk.drew ?_)))) hg1 ((show Mown _ (w.heap.size + 3) G j cg H j ch xs ys from (by repeat (first | (with_reducible exact HM.out) | (with_reducible refine Mown.alloc ?_ _) | (with_reducible refine Mown.drew ?_)))).oa.ne_row (by omega)))
              have hz7 := hg1.size
              (try simp at hz7)
              have HBE7 := hid (Below.grown (show Below w.heap.size w _ from (by repeat (first | (with_reducible exact HRR.out.be) | (with_reducible refine Below.alloc ?_ (by first | omega | (simp; done) | (simp; omega) | (simp only [World.size_alloc, World.size_drew]; omega)) _) | (with_reducible refine Below.drew ?_)))) hg1 (by first | omega | (simp; done) | (simp; omega) | (simp only [World.size_alloc, World.size_drew]; omega)) (fun k hk => by have := (show Mown _ (w.heap.size + 3) G j cg H j ch xs ys from (by repeat (first | (with_reducible exact HM.out) | (with_reducible refine Mown.alloc ?_ _) | (with_reducible refine Mown.drew ?_)))).oa.row_ge k hk; omega))
              have B47 := hid (Blk.grown (show Blk _ (w.heap.size) 44 (mcs (some ⟨b, off, none⟩) m c (some ⟨b', off', none⟩) m d f) from (by repeat (first | (with_reducible exact HRR.out.p4) | (with_reducible refine Blk.alloc ?_ _) | (with_reducible refine Blk.drew ?_)))) hg1 ((show Mown _ (w.heap.size + 3) G j cg H j ch xs ys from (by repeat (first | (with_reducible exact HM.out) | (with_reducible refine Mown.alloc ?_ _) | (with_reducible refine Mown.drew ?_)))).oa.ne_row (by omega)))
              have B87 := hid (Blk.grown (show Blk _ (w.heap.size + 1) 44 (mcs none 0 0 none 0 0 false) from (by repeat (first | (with_reducible exact HRR.out.p8) | (with_reducible refine Blk.alloc ?_ _) | (with_reducible refine Blk.drew ?_)))) hg1 ((show Mown _ (w.heap.size + 3) G j cg H j ch xs ys from (by repeat (first | (with_reducible exact HM.out) | (with_reducible refine Mown.alloc ?_ _) | (with_reducible refine Mown.drew ?_)))).oa.ne_row (by omega)))
              refine hK.out _ _ ?_ ?_
              · exact HSW.out _ B97.out B47.out HBE7.out
              clear hK K
              (try simp only [Act.put, List.setIfInBounds_toArray, List.set_cons_zero, List.set_cons_succ])
              have hS := HSW.out _ B97.out B47.out HBE7.out
              refine wpAnyT_take (i := 10) (v := ?_) (by kernel_rfl) rfl (by kernel_rfl) (fun _ _ _ h => h) (Or.inl ⟨by rfl, ?_⟩) hS ?_
              rotate_left
              · intro w' hSw; have hs := SSout.out w' hSw; have hs0 := hs.1; have hs1 := hs.2.1; have hs2 := hs.2.2.1; have hs3 := hs.2.2.2.1; have hs4 := hs.2.2.2.2.1; have hs5 := hs.2.2.2.2.2; clear hs; go_simp; (try with_reducible rfl)
              clear hS
              (try simp only [Act.put, List.setIfInBounds_toArray, List.set_cons_zero, List.set_cons_succ])
              refine wpAnyT_ready [8] (by kernel_rfl) (by simp) ?_
              refine AllReadyT.cons rfl rfl (fun K hK => ?_) ?_
              · skip
                go_simp
                refine hK.out _ _ ?_ ?_
                · exact HSW.out _ (show Blk _ (w.heap.size + 2) 44 (mcs G j cg H j ch f) from (by repeat (first | (with_reducible exact HRR.out.p9) | (with_reducible exact B97.out) | (with_reducible refine Blk.alloc ?_ _) | (with_reducible refine Blk.drew ?_)))) (show Blk _ (w.heap.size) 44 (mcs (some ⟨b, off, none⟩) m c (some ⟨b', off', none⟩) m d f) from (by repeat (first | (with_reducible exact HRR.out.p4) | (with_reducible exact B47.out) | (with_reducible refine Blk.alloc ?_ _) | (with_reducible refine Blk.drew ?_)))) (show Below w.heap.size w _ from (by repeat (first | (with_reducible exact HRR.out.be) | (with_reducible exact HBE7.out) | (with_reducible refine Below.alloc ?_ (by first | omega | (simp; done) | (simp; omega) | (simp only [World.size_alloc, World.size_drew]; omega)) _) | (with_reducible refine Below.drew ?_))))
                clear hK K
                (try simp only [Act.put, List.setIfInBounds_toArray, List.set_cons_zero, List.set_cons_succ])
                refine wpAnyT_ready [9] (by kernel_rfl) (by simp) ?_
                refine AllReadyT.cons rfl rfl (fun K hK => ?_) ?_
                · skip
                  refine' step_appq blv false _ rfl _ _ 42 rfl (w.heap.size + 3) 4 i1 _ 1 Try.underlying42 hi1 hz10 hz11 hz12 rfl H j ch ys rfl ?hown4n11 wr.heap.size _ 1 _ [y] rfl ?hr4n11 (fun _ => rfl) (by simp only [maxLen]; omega) (by omega) ?hb4n11 ?hK4n11
                  case hown4n11 => exact (show Mown _ (w.heap.size + 3) G' (j + 1) cg' H j ch (xs ++ [x]) ys from (by repeat (first | (with_reducible exact HM7.out) | (with_reducible refine Mown.alloc ?_ _) | (with_reducible refine Mown.drew ?_)))).ob
                  case hr4n11 => (repeat (first | (with_reducible exact slq_one (by first | omega | (simp; done) | (simp; omega) | (simp only [World.size_alloc, World.size_drew]; omega)) (by first | omega | (simp; done) | (simp; omega) | (simp only [World.size_alloc, World.size_drew]; omega))) | (with_reducible exact slq_one rfl (by first | omega | (simp; done) | (simp; omega) | (simp only [World.size_alloc, World.size_drew]; omega))) | (with_reducible refine slq_drew ?_) | (with_reducible refine slq_alloc ?_ _) | (with_reducible refine slq_grown ?_ hg1 (fun k hk => HMlt.out k hk))))
                  case hb4n11 => (first | omega | (simp; done) | (simp; omega) | (simp only [World.size_alloc, World.size_drew]; omega))
                  intro H' ch' w8 og2 hg2 hat2
                  have HM8 := hid (Mown.appB (show Mown _ (w.heap.size + 3) G' (j + 1) cg' H j ch (xs ++ [x]) ys from (by repeat (first | (with_reducible exact HM7.out) | (with_reducible refine Mown.alloc ?_ _) | (with_reducible refine Mown.drew ?_)))) (by first | omega | (simp; done) | (simp; omega) | (simp only [World.size_alloc, World.size_drew]; omega)) hg2 hat2 og2 (by omega))
                  have B98 := hid (Blk.grown (show Blk _ (w.heap.size + 2) 44 (mcs G j cg H j ch f) from (by repeat (first | (with_reducible exact B97.out) | (with_reducible refine Blk.alloc ?_ _) | (with_reducible refine Blk.drew ?_)))) hg2 ((show Mown _ (w.heap.size + 3) G' (j + 1) cg' H j ch (xs ++ [x]) ys from (by repeat (first | (with_reducible exact HM7.out) | (with_reducible refine Mown.alloc ?_ _) | (with_reducible refine Mown.drew ?_)))).ob.ne_row (by omega)))
                  have HBE8 := hid (Below.grown (show Below w.heap.size w _ from (by repeat (first | (with_reducible exact HBE7.out) | (with_reducible refine Below.alloc ?_ (by first | omega | (simp; done) | (simp; omega) | (simp only [World.size_alloc, World.size_drew]; omega)) _) | (with_reducible refine Below.drew ?_)))) hg2 (by first | omega | (simp; done) | (simp; omega) | (simp only [World.size_alloc, World.size_drew]; omega)) (fun k hk => by have := (show Mown _ (w.heap.size + 3) G' (j + 1) cg' H j ch (xs ++ [x]) ys from (by repeat (first | (with_reducible exact HM7.out) | (with_reducible refine Mown.alloc ?_ _) | (with_reducible refine Mown.drew ?_)))).ob.row_ge k hk; omega))
                  have B48 := hid (Blk.grown (show Blk _ (w.heap.size) 44 (mcs (some ⟨b, off, none⟩) m c (some ⟨b', off', none⟩) m d f) from (by repeat (first | (with_reducible exact B47.out) | (with_reducible refine Blk.alloc ?_ _) | (with_reducible refine Blk.drew ?_)))) hg2 ((show Mown _ (w.heap.size + 3) G' (j + 1) cg' H j ch (xs ++ [x]) ys from (by repeat (first | (with_reducible exact HM7.out) | (with_reducible refine Mown.alloc ?_ _) | (with_reducible refine Mown.drew ?_)))).ob.ne_row (by omega)))
                  have B88 := hid (Blk.grown (show Blk _ (w.heap.size + 1) 44 (mcs none 0 0 none 0 0 false) from (by repeat (first | (with_reducible exact B87.out) | (with_reducible refine Blk.alloc ?_ _) | (with_reducible refine Blk.drew ?_)))) hg2 ((show Mown _ (w.heap.size + 3) G' (j + 1) cg' H j ch (xs ++ [x]) ys from (by repeat (first | (with_reducible exact HM7.out) | (with_reducible refine Mown.alloc ?_ _) | (with_reducible refine Mown.drew ?_)))).ob.ne_row (by omega)))
                  refine hK.out _ _ ?_ ?_
                  · exact HSW.out _ B98.out B48.out HBE8.out
                  clear hK K
                  (try simp only [Act.put, List.setIfInBounds_toArray, List.set_cons_zero, List.set_cons_succ])
                  refine wpAnyT_done (by kernel_rfl) ?_
                  simp only [List.drop_succ_cons, List.drop_zero]
                  obtain ⟨t0, t1, t2, tf⟩ := B98.out.cells3
                  go_wp2_with fail
                  refine NoPanic.normal ?_
                  go_wp2_with fail
                  go_meet
                  rw [HX.out, HY.out]
                  exact ⟨G', cg', H', ch', (B48.out.far (by simp <;> omega) _).far (by simp <;> omega) _, (B88.out.far (by simp) _).far (by simp) _, (B98.out.setCell 0 _).setCell 1 _, (HM8.out.setCell (by simp) _).setCell (by simp) _, (HBE8.out.setCell (by simp <;> omega) _).setCell (by simp <;> omega) _⟩
                exact AllReadyT.nil
              exact AllReadyT.nil
            refine AllReadyT.cons rfl rfl (fun K hK => ?_) ?_
            · skip
              go_simp
              refine hK.out _ _ ?_ ?_
              · exact HSW.out _ (show Blk _ (w.heap.size + 2) 44 (mcs G j cg H j ch f) from (by repeat (first | (with_reducible exact HRR.out.p9) | (with_reducible exact B97.out) | (with_reducible refine Blk.alloc ?_ _) | (with_reducible refine Blk.drew ?_)))) (show Blk _ (w.heap.size) 44 (mcs (some ⟨b, off, none⟩) m c (some ⟨b', off', none⟩) m d f) from (by repeat (first | (with_reducible exact HRR.out.p4) | (with_reducible exact B47.out) | (with_reducible refine Blk.alloc ?_ _) | (with_reducible refine Blk.drew ?_)))) (show Below w.heap.size w _ from (by repeat (first | (with_reducible exact HRR.out.be) | (with_reducible exact HBE7.out) | (with_reducible refine Below.alloc ?_ (by first | omega | (simp; done) | (simp; omega) | (simp only [World.size_alloc, World.size_drew]; omega)) _) | (with_reducible refine Below.drew ?_))))
              clear hK K
              (try simp only [Act.put, List.setIfInBounds_toArray, List.set_cons_zero, List.set_cons_succ])
              refine wpAnyT_ready [4] (by kernel_rfl) (by simp) ?_
              refine AllReadyT.cons rfl rfl (fun K hK => ?_) ?_
              · skip
                refine' step_appq u64v 0 _ rfl _ _ 24 rfl (w.heap.size + 3) 27 i0 _ 8 Try.underlying24 hi0 hz00 hz01 hz02 rfl G j cg xs rfl ?hown6n11 wr.heap.size _ 1 _ [x] rfl ?hr6n11 (fun _ => rfl) (by simp only [maxLen]; omega) (by omega) ?hb6n11 ?hK6n11
                case hown6n11 => exact (show Mown _ (w.heap.size + 3) G j cg H j ch xs ys from (by repeat (first | (with_reducible exact HM.out) | (with_reducible refine Mown.alloc ?_ _) | (with_reducible refine Mown.drew ?_)))).oa
                case hr6n11 => (repeat (first | (with_reducible exact slq_one (by first | omega | (simp; done) | (simp; omega) | (simp only [World.size_alloc, World.size_drew]; omega)) (by first | omega | (simp; done) | (simp; omega) | (simp only [World.size_alloc, World.size_drew]; omega))) | (with_reducible exact slq_one rfl (by first | omega | (simp; done) | (simp; omega) | (simp only [World.size_alloc, World.size_drew]; omega))) | (with_reducible refine slq_drew ?_) | (with_reducible refine slq_alloc ?_ _) | (with_reducible refine slq_grown ?_ hg1 (fun k hk => HMlt.out k hk))))
                case hb6n11 => (first | omega | (simp; done) | (simp; omega) | (simp only [World.size_alloc, World.size_drew]; omega))
                intro G' cg' w7 og1 hg1 hat1
                have HM7 := hid (Mown.appA (show Mown _ (w.heap.size + 3) G j cg H j ch xs ys from (by repeat (first | (with_reducible exact HM.out) | (with_reducible refine Mown.alloc ?_ _) | (with_reducible refine Mown.drew ?_)))) (by first | omega | (simp; done) | (simp; omega) | (simp only [World.size_alloc, World.size_drew]; omega)) hg1 hat1 og1 (by omega))
                have B97 := hid (Blk.grown (show Blk _ (w.heap.size + 2) 44 (mcs G j cg H j ch f) from (by repeat (first | (with_reducible exact HRR.out.p9) | (with_reducible exact B97.out) | (with_reducible refine Blk.alloc ?_ _) | (with_reducible refine Blk.drew ?_)))) hg1 ((show Mown _ (w.heap.size + 3) G j cg H j ch xs ys from (by repeat (first | (with_reducible exact HM.out) | (with_reducible refine Mown.alloc ?_ _) | (with_reducible refine Mown.drew ?_)))).oa.ne_row (by omega)))
                have hz7 := hg1.size
                (try simp at hz7)
                have HBE7 := hid (Below.grown (show Below w.heap.size w _ from (by repeat (first | (with_reducible exact HRR.out.be) | (with_reducible refine Below.alloc ?_ (by first | omega | (simp; done) | (simp; omega) | (simp only [World.size_alloc, World.size_drew]; omega)) _) | (with_reducible refine Below.drew ?_)))) hg1 (by first | omega | (simp; done) | (simp; omega) | (simp only [World.size_alloc, World.size_drew]; omega)) (fun k hk => by have := (show Mown _ (w.heap.size + 3) G j cg H j ch xs ys from (by repeat (first | (with_reducible exact HM.out) | (with_reducible refine Mown.alloc ?_ _) | (with_reducible refine Mown.drew ?_)))).oa.row_ge k hk; omega))
                have B47 := hid (Blk.grown (show Blk _ (w.heap.size) 44 (mcs (some ⟨b, off, none⟩) m c (some ⟨b', off', none⟩) m d f) from (by repeat (first | (with_reducible exact HRR.out.p4) | (with_reducible refine Blk.alloc ?_ _) | (with_reducible refine Blk.drew ?_)))) hg1 ((show Mown _ (w.heap.size + 3) G j cg H j ch xs ys from (by repeat (first | (with_reducible exact HM.out) | (with_reducible refine Mown.alloc ?_ _) | (with_reducible refine Mown.drew ?_)))).oa.ne_row (by omega)))
                have B87 := hid (Blk.grown (show Blk _ (w.heap.size + 1) 44 (mcs none 0 0 none 0 0 false) from (by repeat (first | (with_reducible exact HRR.out.p8) | (with_reducible refine Blk.alloc ?_ _) | (with_reducible refine Blk.drew ?_)))) hg1 ((show Mown _ (w.heap.size + 3) G j cg H j ch xs ys from (by repeat (first | (with_reducible exact HM.out) | (with_reducible refine Mown.alloc ?_ _) | (with_reducible refine Mown.drew ?_)))).oa.ne_row (by omega)))
                refine hK.out _ _ ?_ ?_
                · exact HSW.out _ B97.out B47.out HBE7.out
                clear hK K
                (try simp only [Act.put, List.setIfInBounds_toArray, List.set_cons_zero, List.set_cons_succ])
                have hS := HSW.out _ B97.out B47.out HBE7.out
                refine wpAnyT_take (i := 10) (v := ?_) (by kernel_rfl) rfl (by kernel_rfl) (fun _ _ _ h => h) (Or.inl ⟨by rfl, ?_⟩) hS ?_
                rotate_left
                · intro w' hSw; have hs := SSout.out w' hSw; have hs0 := hs.1; have hs1 := hs.2.1; have hs2 := hs.2.2.1; have hs3 := hs.2.2.2.1; have hs4 := hs.2.2.2.2.1; have hs5 := hs.2.2.2.2.2; clear hs; go_simp; (try with_reducible rfl)
                clear hS
                (try simp only [Act.put, List.setIfInBounds_toArray, List.set_cons_zero, List.set_cons_succ])
                refine wpAnyT_ready [9] (by kernel_rfl) (by simp) ?_
                refine AllReadyT.cons rfl rfl (fun K hK => ?_) ?_
                · skip
                  refine' step_appq blv false _ rfl _ _ 42 rfl (w.heap.size + 3) 4 i1 _ 1 Try.underlying42 hi1 hz10 hz11 hz12 rfl H j ch ys rfl ?hown7n11 wr.heap.size _ 1 _ [y] rfl ?hr7n11 (fun _ => rfl) (by simp only [maxLen]; omega) (by omega) ?hb7n11 ?hK7n11
                  case hown7n11 => exact (show Mown _ (w.heap.size + 3) G' (j + 1) cg' H j ch (xs ++ [x]) ys from (by repeat (first | (with_reducible exact HM7.out) | (with_reducible refine Mown.alloc ?_ _) | (with_reducible refine Mown.drew ?_)))).ob
                  case hr7n11 => (repeat (first | (with_reducible exact slq_one (by first | omega | (simp; done) | (simp; omega) | (simp only [World.size_alloc, World.size_drew]; omega)) (by first | omega | (simp; done) | (simp; omega) | (simp only [World.size_alloc, World.size_drew]; omega))) | (with_reducible exact slq_one rfl (by first | omega | (simp; done) | (simp; omega) | (simp only [World.size_alloc, World.size_drew]; omega))) | (with_reducible refine slq_drew ?_) | (with_reducible refine slq_alloc ?_ _) | (with_reducible refine slq_grown ?_ hg1 (fun k hk => HMlt.out k hk))))
                  case hb7n11 => (first | omega | (simp; done) | (simp; omega) | (simp only [World.size_alloc, World.size_drew]; omega))
                  intro H' ch' w8 og2 hg2 hat2
                  have HM8 := hid (Mown.appB (show Mown _ (w.heap.size + 3) G' (j + 1) cg' H j ch (xs ++ [x]) ys from (by repeat (first | (with_reducible exact HM7.out) | (with_reducible refine Mown.alloc ?_ _) | (with_reducible refine Mown.drew ?_)))) (by first | omega | (simp; done) | (simp; omega) | (simp only [World.size_alloc, World.size_drew]; omega)) hg2 hat2 og2 (by omega))
                  have B98 := hid (Blk.grown (show Blk _ (w.heap.size + 2) 44 (mcs G j cg H j ch f) from (by repeat (first | (with_reducible exact B97.out) | (with_reducible refine Blk.alloc ?_ _) | (with_reducible refine Blk.drew ?_)))) hg2 ((show Mown _ (w.heap.size + 3) G' (j + 1) cg' H j ch (xs ++ [x]) ys from (by repeat (first | (with_reducible exact HM7.out) | (with_reducible refine Mown.alloc ?_ _) | (with_reducible refine Mown.drew ?_)))).ob.ne_row (by omega)))
                  have HBE8 := hid (Below.grown (show Below w.heap.size w _ from (by repeat (first | (with_reducible exact HBE7.out) | (with_reducible refine Below.alloc ?_ (by first | omega | (simp; done) | (simp; omega) | (simp only [World.size_alloc, World.size_drew]; omega)) _) | (with_reducible refine Below.drew ?_)))) hg2 (by first | omega | (simp; done) | (simp; omega) | (simp only [World.size_alloc, World.size_drew]; omega)) (fun k hk => by have := (show Mown _ (w.heap.size + 3) G' (j + 1) cg' H j ch (xs ++ [x]) ys from (by repeat (first | (with_reducible exact HM7.out) | (with_reducible refine Mown.alloc ?_ _) | (with_reducible refine Mown.drew ?_)))).ob.row_ge k hk; omega))
                  have B48 := hid (Blk.grown (show Blk _ (w.heap.size) 44 (mcs (some ⟨b, off, none⟩) m c (some ⟨b', off', none⟩) m d f) from (by repeat (first | (with_reducible exact B47.out) | (with_reducible refine Blk.alloc ?_ _) | (with_reducible refine Blk.drew ?_)))) hg2 ((show Mown _ (w.heap.size + 3) G' (j + 1) cg' H j ch (xs ++ [x]) ys from (by repeat (first | (with_reducible exact HM7.out) | (with_reducible refine Mown.alloc ?_ _) | (with_reducible refine Mown.drew ?_)))).ob.ne_row (by omega)))
                  have B88 := hid (Blk.grown (show Blk _ (w.heap.size + 1) 44 (mcs none 0 0 none 0 0 false) from (by repeat (first | (with_reducible exact B87.out) | (with_reducible refine Blk.alloc ?_ _) | (with_reducible refine Blk.drew ?_)))) hg2 ((show Mown _ (w.heap.size + 3) G' (j + 1) cg' H j ch (xs ++ [x]) ys from (by repeat (first | (with_reducible exact HM7.out) | (with_reducible refine Mown.alloc ?_ _) | (with_reducible refine Mown.drew ?_)))).ob.ne_row (by omega)))
                  refine hK.out _ _ ?_ ?_
                  · exact HSW.out _ B98.out B48.out HBE8.out
                  clear hK K
                  (try simp only [Act.put, List.setIfInBounds_toArray, List.set_cons_zero, List.set_cons_succ])
                  refine wpAnyT_done (by kernel_rfl) ?_
                  simp only [List.drop_succ_cons, List.drop_zero]
                  obtain ⟨t0, t1, t2, tf⟩ := B98.out.cells3
                  go_wp2_with fail
                  refine NoPanic.normal ?_
                  go_wp2_with fail
                  go_meet
                  rw [HX.out, HY.out]
                  exact ⟨G', cg', H', ch', (B48.out.far (by simp <;> omega) _).far (by simp <;> omega) _, (B88.out.far (by simp) _).far (by simp) _, (B98.out.setCell 0 _).setCell 1 _, (HM8.out.setCell (by simp) _).setCell (by simp) _, (HBE8.out.setCell (by simp <;> omega) _).setCell (by simp <;> omega) _⟩
                exact AllReadyT.nil
              exact AllReadyT.nil
            exact AllReadyT.nil
          refine AllReadyT.cons rfl rfl (fun K hK => ?_) ?_
          · skip
            go_simp
            refine hK.out _ _ ?_ ?_
            · exact HSW.out _ (show Blk _ (w.heap.size + 2) 44 (mcs G j cg H j ch f) from (by repeat (first | (with_reducible exact HRR.out.p9) | (with_reducible exact B97.out) | (with_reducible refine Blk.alloc ?_ _) | (with_reducible refine Blk.drew ?_)))) (show Blk _ (w.heap.size) 44 (mcs (some ⟨b, off, none⟩) m c (some ⟨b', off', none⟩) m d f) from (by repeat (first | (with_reducible exact HRR.out.p4) | (with_reducible exact B47.out) | (with_reducible refine Blk.alloc ?_ _) | (with_reducible refine Blk.drew ?_)))) (show Below w.heap.size w _ from (by repeat (first | (with_reducible exact HRR.out.be) | (with_reducible exact HBE7.out) | (with_reducible refine Below.alloc ?_ (by first | omega | (simp; done) | (simp; omega) | (simp only [World.size_alloc, World.size_drew]; omega)) _) | (with_reducible refine Below.drew ?_))))
            clear hK K
            (try simp only [Act.put, List.setIfInBounds_toArray, List.set_cons_zero, List.set_cons_succ])
            refine wpAnyT_ready [3] (by kernel_rfl) (by simp) ?_
            refine AllReadyT.cons rfl rfl (fun K hK => ?_) ?_
            · skip
              go_simp
              refine hK.out _ _ ?_ ?_
              · exact HSW.out _ (show Blk _ (w.heap.size + 2) 44 (mcs G j cg H j ch f) from (by repeat (first | (with_reducible exact HRR.out.p9) | (with_reducible exact B97.out) | (with_reducible refine Blk.alloc ?_ _) | (with_reducible refine Blk.drew ?_)))) (show Blk _ (w.heap.size) 44 (mcs (some ⟨b, off, none⟩) m c (some ⟨b', off', none⟩) m d f) from (by repeat (first | (with_reducible exact HRR.out.p4) | (with_reducible exact B47.out) | (with_reducible refine Blk.alloc ?_ _) | (with_reducible refine Blk.drew ?_)))) (show Below w.heap.size w _ from (by repeat (first | (with_reducible exact HRR.out.be) | (with_reducible exact HBE7.out) | (with_reducible refine Below.alloc ?_ (by first | omega | (simp; done) | (simp; omega) | (simp only [World.size_alloc, World.size_drew]; omega)) _) | (with_reducible refine Below.drew ?_))))
              clear hK K
              (try simp only [Act.put, List.setIfInBounds_toArray, List.set_cons_zero, List.set_cons_succ])
              refine wpAnyT_ready [4] (by kernel_rfl) (by simp) ?_
              refine AllReadyT.cons rfl rfl (fun K hK => ?_) ?_
              · skip
                refine' step_appq u64v 0 _ rfl _ _ 24 rfl (w.heap.size + 3) 27 i0 _ 8 Try.underlying24 hi0 hz00 hz01 hz02 rfl G j cg xs rfl ?hown10n11 wr.heap.size _ 1 _ [x] rfl ?hr10n11 (fun _ => rfl) (by simp only [maxLen]; omega) (by omega) ?hb10n11 ?hK10n11
                case hown10n11 => exact (show Mown _ (w.heap.size + 3) G j cg H j ch xs ys from (by repeat (first | (with_reducible exact HM.out) | (with_reducible refine Mown.alloc ?_ _) | (with_reducible refine Mown.drew ?_)))).oa
                case hr10n11 => (repeat (first | (with_reducible exact slq_one (by first | omega | (simp; done) | (simp; omega) | (simp only [World.size_alloc, World.size_drew]; omega)) (by first | omega | (simp; done) | (simp; omega) | (simp only [World.size_alloc, World.size_drew]; omega))) | (with_reducible exact slq_one rfl (by first | omega | (simp; done) | (simp; omega) | (simp only [World.size_alloc, World.size_drew]; omega))) | (with_reducible refine slq_drew ?_) | (with_reducible refine slq_alloc ?_ _) | (with_reducible refine slq_grown ?_ hg1 (fun k hk => HMlt.out k hk))))
                case hb10n11 => (first | omega | (simp; done) | (simp; omega) | (simp only [World.size_alloc, World.size_drew]; omega))
                intro G' cg' w7 og1 hg1 hat1
                have HM7 := hid (Mown.appA (show Mown _ (w.heap.size + 3) G j cg H j ch xs ys from (by repeat (first | (with_reducible exact HM.out) | (with_reducible refine Mown.alloc ?_ _) | (with_reducible refine Mown.drew ?_)))) (by first | omega | (simp; done) | (simp; omega) | (simp only [World.size_alloc, World.size_drew]; omega)) hg1 hat1 og1 (by omega))
                have B97 := hid (Blk.grown (show Blk _ (w.heap.size + 2) 44 (mcs G j cg H j ch f) from (by repeat (first | (with_reducible exact HRR.out.p9) | (with_reducible exact B97.out) | (with_reducible refine Blk.alloc ?_ _) | (with_reducible refine Blk.drew ?_)))) hg1 ((show Mown _ (w.heap.size + 3) G j cg H j ch xs ys from (by repeat (first | (with_reducible exact HM.out) | (with_reducible refine Mown.alloc ?_ _) | (with_reducible refine Mown.drew ?_)))).oa.ne_row (by omega)))
                have hz7 := hg1.size
                (try simp at hz7)
                have HBE7 := hid (Below.grown (show Below w.heap.size w _ from (by repeat (first | (with_reducible exact HRR.out.be) | (with_reducible refine Below.alloc ?_ (by first | omega | (simp; done) | (simp; omega) | (simp only [World.size_alloc, World.size_drew]; omega)) _) | (with_reducible refine Below.drew ?_)))) hg1 (by first | omega | (simp; done) | (simp; omega) | (simp only [World.size_alloc, World.size_drew]; omega)) (fun k hk => by have := (show Mown _ (w.heap.size + 3) G j cg H j ch xs ys from (by repeat (first | (with_reducible exact HM.out) | (with_reducible refine Mown.alloc ?_ _) | (with_reducible refine Mown.drew ?_)))).oa.row_ge k hk; omega))
                have B47 := hid (Blk.grown (show Blk _ (w.heap.size) 44 (mcs (some ⟨b, off, none⟩) m c (some ⟨b', off', none⟩) m d f) from (by repeat (first | (with_reducible exact HRR.out.p4) | (with_reducible refine Blk.alloc ?_ _) | (with_reducible refine Blk.drew ?_)))) hg1 ((show Mown _ (w.heap.size + 3) G j cg H j ch xs ys from (by repeat (first | (with_reducible exact HM.out) | (with_reducible refine Mown.alloc ?_ _) | (with_reducible refine Mown.drew ?_)))).oa.ne_row (by omega)))
                have B87 := hid (Blk.grown (show Blk _ (w.heap.size + 1) 44 (mcs none 0 0 none 0 0 false) from (by repeat (first | (with_reducible exact HRR.out.p8) | (with_reducible refine Blk.alloc ?_ _) | (with_reducible refine Blk.drew ?_)))) hg1 ((show Mown _ (w.heap.size + 3) G j cg H j ch xs ys from (by repeat (first | (with_reducible exact HM.out) | (with_reducible refine Mown.alloc ?_ _) | (with_reducible refine Mown.drew ?_)))).oa.ne_row (by omega)))
                refine hK.out _ _ ?_ ?_
                · exact HSW.out _ B97.out B47.out HBE7.out
                clear hK K
                (try simp only [Act.put, List.setIfInBounds_toArray, List.set_cons_zero, List.set_cons_succ])
                have hS := HSW.out _ B97.out B47.out HBE7.out
                refine wpAnyT_take (i := 10) (v := ?_) (by kernel_rfl) rfl (by kernel_rfl) (fun _ _ _ h => h) (Or.inl ⟨by rfl, ?_⟩) hS ?_
                rotate_left
                · intro w' hSw; have hs := SSout.out w' hSw; have hs0 := hs.1; have hs1 := hs.2.1; have hs2 := hs.2.2.1; have hs3 := hs.2.2.2.1; have hs4 := hs.2.2.2.2.1; have hs5 := hs.2.2.2.2.2; clear hs; go_simp; (try with_reducible rfl)
                clear hS
                (try simp only [Act.put, List.setIfInBounds_toArray, List.set_cons_zero, List.set_cons_succ])
                refine wpAnyT_ready [9] (by kernel_rfl) (by simp) ?_
                refine AllReadyT.cons rfl rfl (fun K hK => ?_) ?_
                · skip
                  refine' step_appq blv false _ rfl _ _ 42 rfl (w.heap.size + 3) 4 i1 _ 1 Try.underlying42 hi1 hz10 hz11 hz12 rfl H j ch ys rfl ?hown11n11 wr.heap.size _ 1 _ [y] rfl ?hr11n11 (fun _ => rfl) (by simp only [maxLen]; omega) (by omega) ?hb11n11 ?hK11n11
                  case hown11n11 => exact (show Mown _ (w.heap.size + 3) G' (j + 1) cg' H j ch (xs ++ [x]) ys from (by repeat (first | (with_reducible exact HM7.out) | (with_reducible refine Mown.alloc ?_ _) | (with_reducible refine Mown.drew ?_)))).ob
                  case hr11n11 => (repeat (first | (with_reducible exact slq_one (by first | omega | (simp; done) | (simp; omega) | (simp only [World.size_alloc, World.size_drew]; omega)) (by first | omega | (simp; done) | (simp; omega) | (simp only [World.size_alloc, World.size_drew]; omega))) | (with_reducible exact slq_one rfl (by first | omega | (simp; done) | (simp; omega) | (simp only [World.size_alloc, World.size_drew]; omega))) | (with_reducible refine slq_drew ?_) | (with_reducible refine slq_alloc ?_ _) | (with_reducible refine slq_grown ?_ hg1 (fun k hk => HMlt.out k hk))))
                  case hb11n11 => (first | omega | (simp; done) | (simp; omega) | (simp only [World.size_alloc, World.size_drew]; omega))
                  intro H' ch' w8 og2 hg2 hat2
                  have HM8 := hid (Mown.appB (show Mown _ (w.heap.size + 3) G' (j + 1) cg' H j ch (xs ++ [x]) ys from (by repeat (first | (with_reducible exact HM7.out) | (with_reducible refine Mown.alloc ?_ _) | (with_reducible refine Mown.drew ?_)))) (by first | omega | (simp; done) | (simp; omega) | (simp only [World.size_alloc, World.size_drew]; omega)) hg2 hat2 og2 (by omega))
                  have B98 := hid (Blk.grown (show Blk _ (w.heap.size + 2) 44 (mcs G j cg H j ch f) from (by repeat (first | (with_reducible exact B97.out) | (with_reducible refine Blk.alloc ?_ _) | (with_reducible refine Blk.drew ?_)))) hg2 ((show Mown _ (w.heap.size + 3) G' (j + 1) cg' H j ch (xs ++ [x]) ys from (by repeat (first | (with_reducible exact HM7.out) | (with_reducible refine Mown.alloc ?_ _) | (with_reducible refine Mown.drew ?_)))).ob.ne_row (by omega)))
                  have HBE8 := hid (Below.grown (show Below w.heap.size w _ from (by repeat (first | (with_reducible exact HBE7.out) | (with_reducible refine Below.alloc ?_ (by first | omega | (simp; done) | (simp; omega) | (simp only [World.size_alloc, World.size_drew]; omega)) _) | (with_reducible refine Below.drew ?_)))) hg2 (by first | omega | (simp; done) | (simp; omega) | (simp only [World.size_alloc, World.size_drew]; omega)) (fun k hk => by have := (show Mown _ (w.heap.size + 3) G' (j + 1) cg' H j ch (xs ++ [x]) ys from (by repeat (first | (with_reducible exact HM7.out) | (with_reducible refine Mown.alloc ?_ _) | (with_reducible refine Mown.drew ?_)))).ob.row_ge k hk; omega))
                  have B48 := hid (Blk.grown (show Blk _ (w.heap.size) 44 (mcs (some ⟨b, off, none⟩) m c (some ⟨b', off', none⟩) m d f) from (by repeat (first | (with_reducible exact B47.out) | (with_reducible refine Blk.alloc ?_ _) | (with_reducible refine Blk.drew ?_)))) hg2 ((show Mown _ (w.heap.size + 3) G' (j + 1) cg' H j ch (xs ++ [x]) ys from (by repeat (first | (with_reducible exact HM7.out) | (with_reducible refine Mown.alloc ?_ _) | (with_reducible refine Mown.drew ?_)))).ob.ne_row (by omega)))
                  have B88 := hid (Blk.grown (show Blk _ (w.heap.size + 1) 44 (mcs none 0 0 none 0 0 false) from (by repeat (first | (with_reducible exact B87.out) | (with_reducible refine Blk.alloc ?_ _) | (with_reducible refine Blk.drew ?_)))) hg2 ((show Mown _ (w.heap.size + 3) G' (j + 1) cg' H j ch (xs ++ [x]) ys from (by repeat (first | (with_reducible exact HM7.out) | (with_reducible refine Mown.alloc ?_ _) | (with_reducible refine Mown.drew ?_)))).ob.ne_row (by omega)))
                  refine hK.out _ _ ?_ ?_
                  · exact HSW.out _ B98.out B48.out HBE8.out
                  clear hK K
                  (try simp only [Act.put, List.setIfInBounds_toArray, List.set_cons_zero, List.set_cons_succ])
                  refine wpAnyT_done (by kernel_rfl) ?_
                  simp only [List.drop_succ_cons, List.drop_zero]
                  obtain ⟨t0, t1, t2, tf⟩ := B98.out.cells3
                  go_wp2_with fail
                  refine NoPanic.normal ?_
                  go_wp2_with fail
                  go_meet
                  rw [HX.out, HY.out]
                  exact ⟨G', cg', H', ch', (B48.out.far (by simp <;> omega) _).far (by simp <;> omega) _, (B88.out.far (by simp) _).far (by simp) _, (B98.out.setCell 0 _).setCell 1 _, (HM8.out.setCell (by simp) _).setCell (by simp) _, (HBE8.out.setCell (by simp <;> omega) _).setCell (by simp <;> omega) _⟩
                exact AllReadyT.nil
              exact AllReadyT.nil
            exact AllReadyT.nil
          exact AllReadyT.nil
        · rw [if_neg hjk] at HX HY
          have e1 : ((j : Int) == (k : Int)) = false := by simp; omega
          clear hjk
          go_upto_region 7 with fail
          refine wp_region_noPanic ?_
          refine wp_region_held_tail 19 SS #[false, false, false, false, false, false, false, false, false, false, false, false, false, false, false, false, false, false, false, false, false, false] (by kernel_rfl) (HS0.out) (by kernel_rfl) (by kernel_rfl) (fun hS => ?_)
          refine wpAnyT_take (i := 0) (v := ?_) (by kernel_rfl) rfl (by kernel_rfl) (fun _ _ _ h => h) (Or.inl ⟨by rfl, ?_⟩) hS ?_
          rotate_left
          · intro w' hSw; have hs := SSout.out w' hSw; have hs0 := hs.1; have hs1 := hs.2.1; have hs2 := hs.2.2.1; have hs3 := hs.2.2.2.1; have hs4 := hs.2.2.2.2.1; have hs5 := hs.2.2.2.2.2; clear hs; go_simp; (try with_reducible rfl)
          (try simp only [Act.put, List.setIfInBounds_toArray, List.set_cons_zero, List.set_cons_succ])
          refine wpAnyT_take (i := 2) (v := ?_) (by kernel_rfl) rfl (by kernel_rfl) (fun _ _ _ h => h) (Or.inl ⟨by rfl, ?_⟩) hS ?_
          rotate_left
          · intro w' hSw; have hs := SSout.out w' hSw; have hs0 := hs.1; have hs1 := hs.2.1; have hs2 := hs.2.2.1; have hs3 := hs.2.2.2.1; have hs4 := hs.2.2.2.2.1; have hs5 := hs.2.2.2.2.2; clear hs; go_simp; (try with_reducible rfl)
          (try simp only [Act.put, List.setIfInBounds_toArray, List.set_cons_zero, List.set_cons_succ])
          refine wpAnyT_take (i := 4) (v := ?_) (by kernel_rfl) rfl (by kernel_rfl) (fun _ _ _ h => h) (Or.inl ⟨by rfl, ?_⟩) hS ?_
          rotate_left
          · intro w' hSw; have hs := SSout.out w' hSw; have hs0 := hs.1; have hs1 := hs.2.1; have hs2 := hs.2.2.1; have hs3 := hs.2.2.2.1; have hs4 := hs.2.2.2.2.1; have hs5 := hs.2.2.2.2.2; clear hs; go_simp; (try with_reducible rfl)
          (try simp only [Act.put, List.setIfInBounds_toArray, List.set_cons_zero, List.set_cons_succ])
          refine wpAnyT_take (i := 1) (v := ?_) (by kernel_rfl) rfl (by kernel_rfl) (fun _ _ _ h => h) (Or.inl ⟨by rfl, ?_⟩) hS ?_
          rotate_left
          · intro w' hSw; have hs := SSout.out w' hSw; have hs0 := hs.1; have hs1 := hs.2.1; have hs2 := hs.2.2.1; have hs3 := hs.2.2.2.1; have hs4 := hs.2.2.2.2.1; have hs5 := hs.2.2.2.2.2; clear hs; go_simp; (try with_reducible rfl)
          (try simp only [Act.put, List.setIfInBounds_toArray, List.set_cons_zero, List.set_cons_succ])
          refine wpAnyT_take (i := 3) (v := ?_) (by kernel_rfl) rfl (by kernel_rfl) (fun _ _ _ h => h) (Or.inl ⟨by rfl, ?_⟩) hS ?_
          rotate_left
          · intro w' hSw; have hs := SSout.out w' hSw; have hs0 := hs.1; have hs1 := hs.2.1; have hs2 := hs.2.2.1; have hs3 := hs.2.2.2.1; have hs4 := hs.2.2.2.2.1; have hs5 := hs.2.2.2.2.2; clear hs; go_simp; (try with_reducible rfl)
          (try simp only [Act.put, List.setIfInBounds_toArray, List.set_cons_zero, List.set_cons_succ])
          refine wpAnyT_take (i := 5) (v := ?_) (by kernel_rfl) rfl (by kernel_rfl) (fun _ _ _ h => h) (Or.inl ⟨by rfl, ?_⟩) hS ?_
          rotate_left
          · intro w' hSw; have hs := SSout.out w' hSw; have hs0 := hs.1; have hs1 := hs.2.1; have hs2 := hs.2.2.1; have hs3 := hs.2.2.2.1; have hs4 := hs.2.2.2.2.1; have hs5 := hs.2.2.2.2.2; clear hs; go_simp; (try with_reducible rfl)
          (try simp only [Act.put, List.setIfInBounds_toArray, List.set_cons_zero, List.set_cons_succ])
          refine wpAnyT_take (i := 6) (v := ?_) (by kernel_rfl) rfl (by kernel_rfl) (fun _ _ _ h => h) (Or.inl ⟨by rfl, ?_⟩) hS ?_
          rotate_left
          · intro w' hSw; have hs := SSout.out w' hSw; have hs0 := hs.1; have hs1 := hs.2.1; have hs2 := hs.2.2.1; have hs3 := hs.2.2.2.1; have hs4 := hs.2.2.2.2.1; have hs5 := hs.2.2.2.2.2; clear hs; go_simp; (try with_reducible rfl)
          (try simp only [Act.put, List.setIfInBounds_toArray, List.set_cons_zero, List.set_cons_succ])
          refine wpAnyT_take (i := 9) (v := ?_) (by kernel_rfl) rfl (by kernel_rfl) (fun _ _ _ h => h) (Or.inl ⟨by rfl, ?_⟩) hS ?_
          rotate_left
          · intro w' hSw; have hs := SSout.out w' hSw; have hs0 := hs.1; have hs1 := hs.2.1; have hs2 := hs.2.2.1; have hs3 := hs.2.2.2.1; have hs4 := hs.2.2.2.2.1; have hs5 := hs.2.2.2.2.2; clear hs; go_simp; (try with_reducible rfl)
          (try simp only [Act.put, List.setIfInBounds_toArray, List.set_cons_zero, List.set_cons_succ])
          refine wpAnyT_take (i := 11) (v := ?_) (by kernel_rfl) rfl (by kernel_rfl) (fun _ _ _ h => h) (Or.inl ⟨by rfl, ?_⟩) hS ?_
          rotate_left
          · intro w' hSw; have hs := SSout.out w' hSw; have hs0 := hs.1; have hs1 := hs.2.1; have hs2 := hs.2.2.1; have hs3 := hs.2.2.2.1; have hs4 := hs.2.2.2.2.1; have hs5 := hs.2.2.2.2.2; clear hs; go_simp; (try with_reducible rfl)
          (try simp only [Act.put, List.setIfInBounds_toArray, List.set_cons_zero, List.set_cons_succ])
          refine wpAnyT_take (i := 13) (v := ?_) (by kernel_rfl) rfl (by kernel_rfl) (fun _ _ _ h => h) (Or.inl ⟨by rfl, ?_⟩) hS ?_
          rotate_left
          · intro w' hSw; have hs := SSout.out w' hSw; have hs0 := hs.1; have hs1 := hs.2.1; have hs2 := hs.2.2.1; have hs3 := hs.2.2.2.1; have hs4 := hs.2.2.2.2.1; have hs5 := hs.2.2.2.2.2; clear hs; go_simp; (try with_reducible rfl)
          (try simp only [Act.put, List.setIfInBounds_toArray, List.set_cons_zero, List.set_cons_succ])
          refine wpAnyT_take (i := 10) (v := ?_) (by kernel_rfl) rfl (by kernel_rfl) (fun _ _ _ h => h) (Or.inl ⟨by rfl, ?_⟩) hS ?_
          rotate_left
          · intro w' hSw; have hs := SSout.out w' hSw; have hs0 := hs.1; have hs1 := hs.2.1; have hs2 := hs.2.2.1; have hs3 := hs.2.2.2.1; have hs4 := hs.2.2.2.2.1; have hs5 := hs.2.2.2.2.2; clear hs; go_simp; (try with_reducible rfl)
          (try simp only [Act.put, List.setIfInBounds_toArray, List.set_cons_zero, List.set_cons_succ])
          refine wpAnyT_take (i := 12) (v := ?_) (by kernel_rfl) rfl (by kernel_rfl) (fun _ _ _ h => h) (Or.inl ⟨by rfl, ?_⟩) hS ?_
          rotate_left
          · intro w' hSw; have hs := SSout.out w' hSw; have hs0 := hs.1; have hs1 := hs.2.1; have hs2 := hs.2.2.1; have hs3 := hs.2.2.2.1; have hs4 := hs.2.2.2.2.1; have hs5 := hs.2.2.2.2.2; clear hs; go_simp; (try with_reducible rfl)
          (try simp only [Act.put, List.setIfInBounds_toArray, List.set_cons_zero, List.set_cons_succ])
          refine wpAnyT_take (i := 14) (v := ?_) (by kernel_rfl) rfl (by kernel_rfl) (fun _ _ _ h => h) (Or.inl ⟨by rfl, ?_⟩) hS ?_
          rotate_left
          · intro w' hSw; have hs := SSout.out w' hSw; have hs0 := hs.1; have hs1 := hs.2.1; have hs2 := hs.2.2.1; have hs3 := hs.2.2.2.1; have hs4 := hs.2.2.2.2.1; have hs5 := hs.2.2.2.2.2; clear hs; go_simp; (try with_reducible rfl)
          (try simp only [Act.put, List.setIfInBounds_toArray, List.set_cons_zero, List.set_cons_succ])
          refine wpAnyT_take (i := 15) (v := ?_) (by kernel_rfl) rfl (by kernel_rfl) (fun _ _ _ h => h) (Or.inl ⟨by rfl, ?_⟩) hS ?_
          rotate_left
          · intro w' hSw; have hs := SSout.out w' hSw; have hs0 := hs.1; have hs1 := hs.2.1; have hs2 := hs.2.2.1; have hs3 := hs.2.2.2.1; have hs4 := hs.2.2.2.2.1; have hs5 := hs.2.2.2.2.2; clear hs; go_simp; (try with_reducible rfl)
          (try simp only [Act.put, List.setIfInBounds_toArray, List.set_cons_zero, List.set_cons_succ])
          clear hS
          refine wpAnyT_ready [7, 16] (by kernel_rfl) (by simp) ?_
          refine AllReadyT.cons rfl rfl (fun K hK => ?_) ?_
          · skip
            go_simp
            refine hK.out _ _ ?_ ?_
            · exact HSW.out _ (show Blk _ (w.heap.size + 2) 44 (mcs G j cg H j ch f) from (by repeat (first | (with_reducible exact HRR.out.p9) | (with_reducible exact B97.out) | (with_reducible refine Blk.alloc ?_ _) | (with_reducible refine Blk.drew ?_)))) (show Blk _ (w.heap.size) 44 (mcs (some ⟨b, off, none⟩) m c (some ⟨b', off', none⟩) m d f) from (by repeat (first | (with_reducible exact HRR.out.p4) | (with_reducible exact B47.out) | (with_reducible refine Blk.alloc ?_ _) | (with_reducible refine Blk.drew ?_)))) (show Below w.heap.size w _ from (by repeat (first | (with_reducible exact HRR.out.be) | (with_reducible exact HBE7.out) | (with_reducible refine Below.alloc ?_ (by first | omega | (simp; done) | (simp; omega) | (simp only [World.size_alloc, World.size_drew]; omega)) _) | (with_reducible refine Below.drew ?_))))
            clear hK K
            (try simp only [Act.put, List.setIfInBounds_toArray, List.set_cons_zero, List.set_cons_succ])
            refine wpAnyT_ready [8, 16] (by kernel_rfl) (by simp) ?_
            refine AllReadyT.cons rfl rfl (fun K hK => ?_) ?_
            · skip
              refine' step_appq u64v 0 _ rfl _ _ 24 rfl (w.heap.size + 3) 27 i0 _ 8 Try.underlying24 hi0 hz00 hz01 hz02 rfl G j cg xs rfl ?hown2n19 wr.heap.size _ 1 _ [xj] rfl ?hr2n19 (fun _ => rfl) (by simp only [maxLen]; omega) (by omega) ?hb2n19 ?hK2n19
              case hown2n19 => exact (show Mown _ (w.heap.size + 3) G j cg H j ch xs ys from (by repeat (first | (with_reducible exact HM.out) | (with_reducible refine Mown.alloc ?_ _) | (with_reducible refine Mown.drew ?_)))).oa
              case hr2n19 => (repeat (first | (with_reducible exact slq_one (by first | omega | (simp; done) | (simp; omega) | (simp only [World.size_alloc, World.size_drew]; omega)) (by first | omega | (simp; done) | (simp; omega) | (simp only [World.size_alloc, World.size_drew]; omega))) | (with_reducible exact slq_one rfl (by first | omega | (simp; done) | (simp; omega) | (simp only [World.size_alloc, World.size_drew]; omega))) | (with_reducible refine slq_drew ?_) | (with_reducible refine slq_alloc ?_ _) | (with_reducible refine slq_grown ?_ hg1 (fun k hk => HMlt.out k hk))))
              case hb2n19 => (first | omega | (simp; done) | (simp; omega) | (simp only [World.size_alloc, World.size_drew]; omega))
              intro G' cg' w7 og1 hg1 hat1
              have HM7 := hid (Mown.appA (show Mown _ (w.heap.size + 3) G j cg H j ch xs ys from (by repeat (first | (with_reducible exact HM.out) | (with_reducible refine Mown.alloc ?_ _) | (with_reducible refine Mown.drew ?_)))) (by first | omega | (simp; done) | (simp; omega) | (simp only [World.size_alloc, World.size_drew]; omega)) hg1 hat1 og1 (by omega))
              have B97 := hid (Blk.grown (show Blk _ (w.heap.size + 2) 44 (mcs G j cg H j ch f) from (by repeat (first | (with_reducible exact HRR.out.p9) | (with_reducible exact B97.out) | (with_reducible refine Blk.alloc ?_ _) | (with_reducible refine Blk.drew ?_)))) hg1 ((show Mown _ (w.heap.size + 3) G j cg H j ch xs ys from (by repeat (first | (with_reducible exact HM.out) | (with_reducible refine Mown.alloc ?_ _) | (with_reducible refine Mown.drew ?_)))).oa.ne_row (by omega)))
              have hz7 := hg1.size
              (try simp at hz7)
              have HBE7 := hid (Below.grown (show Below w.heap.size w _ from (by repeat (first | (with_reducible exact HRR.out.be) | (with_reducible refine Below.alloc ?_ (by first | omega | (simp; done) | (simp; omega) | (simp only [World.size_alloc, World.size_drew]; omega)) _) | (with_reducible refine Below.drew ?_)))) hg1 (by first | omega | (simp; done) | (simp; omega) | (simp only [World.size_alloc, World.size_drew]; omega)) (fun k hk => by have := (show Mown _ (w.heap.size + 3) G j cg H j ch xs ys from (by repeat (first | (with_reducible exact HM.out) | (with_reducible refine Mown.alloc ?_ _) | (with_reducible refine Mown.drew ?_)))).oa.row_ge k hk; omega))
              have B47 := hid (Blk.grown (show Blk _ (w.heap.size) 44 (mcs (some ⟨b, off, none⟩) m c (some ⟨b', off', none⟩) m d f) from (by repeat (first | (with_reducible exact HRR.out.p4) | (with_reducible refine Blk.alloc ?_ _) | (with_reducible refine Blk.drew ?_)))) hg1 ((show Mown _ (w.heap.size + 3) G j cg H j ch xs ys from (by repeat (first | (with_reducible exact HM.out) | (with_reducible refine Mown.alloc ?_ _) | (with_reducible refine Mown.drew ?_)))).oa.ne_row (by omega)))
              have B87 := hid (Blk.grown (show Blk _ (w.heap.size + 1) 44 (mcs none 0 0 none 0 0 false) from (by repeat (first | (with_reducible exact HRR.out.p8) | (with_reducible refine Blk.alloc ?_ _) | (with_reducible refine Blk.drew ?_)))) hg1 ((show Mown _ (w.heap.size + 3) G j cg H j ch xs ys from (by repeat (first | (with_reducible exact HM.out) | (with_reducible refine Mown.alloc ?_ _) | (with_reducible refine Mown.drew ?_)))).oa.ne_row (by omega)))
              refine hK.out _ _ ?_ ?_
              · exact HSW.out _ B97.out B47.out HBE7.out
              clear hK K
              (try simp only [Act.put, List.setIfInBounds_toArray, List.set_cons_zero, List.set_cons_succ])
              have hS := HSW.out _ B97.out B47.out HBE7.out
              refine wpAnyT_take (i := 18) (v := ?_) (by kernel_rfl) rfl (by kernel_rfl) (fun _ _ _ h => h) (Or.inl ⟨by rfl, ?_⟩) hS ?_
              rotate_left
              · intro w' hSw; have hs := SSout.out w' hSw; have hs0 := hs.1; have hs1 := hs.2.1; have hs2 := hs.2.2.1; have hs3 := hs.2.2.2.1; have hs4 := hs.2.2.2.2.1; have hs5 := hs.2.2.2.2.2; clear hs; go_simp; (try with_reducible rfl)
              clear hS
              (try simp only [Act.put, List.setIfInBounds_toArray, List.set_cons_zero, List.set_cons_succ])
              refine wpAnyT_ready [16] (by kernel_rfl) (by simp) ?_
              refine AllReadyT.cons rfl rfl (fun K hK => ?_) ?_
              · skip
                go_simp
                refine hK.out _ _ ?_ ?_
                · exact HSW.out _ (show Blk _ (w.heap.size + 2) 44 (mcs G j cg H j ch f) from (by repeat (first | (with_reducible exact HRR.out.p9) | (with_reducible exact B97.out) | (with_reducible refine Blk.alloc ?_ _) | (with_reducible refine Blk.drew ?_)))) (show Blk _ (w.heap.size) 44 (mcs (some ⟨b, off, none⟩) m c (some ⟨b', off', none⟩) m d f) from (by repeat (first | (with_reducible exact HRR.out.p4) | (with_reducible exact B47.out) | (with_reducible refine Blk.alloc ?_ _) | (with_reducible refine Blk.drew ?_)))) (show Below w.heap.size w _ from (by repeat (first | (with_reducible exact HRR.out.be) | (with_reducible exact HBE7.out) | (with_reducible refine Below.alloc ?_ (by first | omega | (simp; done) | (simp; omega) | (simp only [World.size_alloc, World.size_drew]; omega)) _) | (with_reducible refine Below.drew ?_))))
                clear hK K
                (try simp only [Act.put, List.setIfInBounds_toArray, List.set_cons_zero, List.set_cons_succ])
                refine wpAnyT_ready [17] (by kernel_rfl) (by simp) ?_
                refine AllReadyT.cons rfl rfl (fun K hK => ?_) ?_
                · skip
                  refine' step_appq blv false _ rfl _ _ 42 rfl (w.heap.size + 3) 4 i1 _ 1 Try.underlying42 hi1 hz10 hz11 hz12 rfl H j ch ys rfl ?hown4n19 wr.heap.size _ 1 _ [yj] rfl ?hr4n19 (fun _ => rfl) (by simp only [maxLen]; omega) (by omega) ?hb4n19 ?hK4n19
                  case hown4n19 => exact (show Mown _ (w.heap.size + 3) G' (j + 1) cg' H j ch (xs ++ [xj]) ys from (by repeat (first | (with_reducible exact HM7.out) | (with_reducible refine Mown.alloc ?_ _) | (with_reducible refine Mown.drew ?_)))).ob
                  case hr4n19 => (repeat (first | (with_reducible exact slq_one (by first | omega | (simp; done) | (simp; omega) | (simp only [World.size_alloc, World.size_drew]; omega)) (by first | omega | (simp; done) | (simp; omega) | (simp only [World.size_alloc, World.size_drew]; omega))) | (with_reducible exact slq_one rfl (by first | omega | (simp; done) | (simp; omega) | (simp only [World.size_alloc, World.size_drew]; omega))) | (with_reducible refine slq_drew ?_) | (with_reducible refine slq_alloc ?_ _) | (with_reducible refine slq_grown ?_ hg1 (fun k hk => HMlt.out k hk))))
                  case hb4n19 => (first | omega | (simp; done) | (simp; omega) | (simp only [World.size_alloc, World.size_drew]; omega))
                  intro H' ch' w8 og2 hg2 hat2
                  have HM8 := hid (Mown.appB (show Mown _ (w.heap.size + 3) G' (j + 1) cg' H j ch (xs ++ [xj]) ys from (by repeat (first | (with_reducible exact HM7.out) | (with_reducible refine Mown.alloc ?_ _) | (with_reducible refine Mown.drew ?_)))) (by first | omega | (simp; done) | (simp; omega) | (simp only [World.size_alloc, World.size_drew]; omega)) hg2 hat2 og2 (by omega))
                  have B98 := hid (Blk.grown (show Blk _ (w.heap.size + 2) 44 (mcs G j cg H j ch f) from (by repeat (first | (with_reducible exact B97.out) | (with_reducible refine Blk.alloc ?_ _) | (with_reducible refine Blk.drew ?_)))) hg2 ((show Mown _ (w.heap.size + 3) G' (j + 1) cg' H j ch (xs ++ [xj]) ys from (by repeat (first | (with_reducible exact HM7.out) | (with_reducible refine Mown.alloc ?_ _) | (with_reducible refine Mown.drew ?_)))).ob.ne_row (by omega)))
                  have HBE8 := hid (Below.grown (show Below w.heap.size w _ from (by repeat (first | (with_reducible exact HBE7.out) | (with_reducible refine Below.alloc ?_ (by first | omega | (simp; done) | (simp; omega) | (simp only [World.size_alloc, World.size_drew]; omega)) _) | (with_reducible refine Below.drew ?_)))) hg2 (by first | omega | (simp; done) | (simp; omega) | (simp only [World.size_alloc, World.size_drew]; omega)) (fun k hk => by have := (show Mown _ (w.heap.size + 3) G' (j + 1) cg' H j ch (xs ++ [xj]) ys from (by repeat (first | (with_reducible exact HM7.out) | (with_reducible refine Mown.alloc ?_ _) | (with_reducible refine Mown.drew ?_)))).ob.row_ge k hk; omega))
                  have B48 := hid (Blk.grown (show Blk _ (w.heap.size) 44 (mcs (some ⟨b, off, none⟩) m c (some ⟨b', off', none⟩) m d f) from (by repeat (first | (with_reducible exact B47.out) | (with_reducible refine Blk.alloc ?_ _) | (with_reducible refine Blk.drew ?_)))) hg2 ((show Mown _ (w.heap.size + 3) G' (j + 1) cg' H j ch (xs ++ [xj]) ys from (by repeat (first | (with_reducible exact HM7.out) | (with_reducible refine Mown.alloc ?_ _) | (with_reducible refine Mown.drew ?_)))).ob.ne_row (by omega)))
                  have B88 := hid (Blk.grown (show Blk _ (w.heap.size + 1) 44 (mcs none 0 0 none 0 0 false) from (by repeat (first | (with_reducible exact B87.out) | (with_reducible refine Blk.alloc ?_ _) | (with_reducible refine Blk.drew ?_)))) hg2 ((show Mown _ (w.heap.size + 3) G' (j + 1) cg' H j ch (xs ++ [xj]) ys from (by repeat (first | (with_reducible exact HM7.out) | (with_reducible refine Mown.alloc ?_ _) | (with_reducible refine Mown.drew ?_)))).ob.ne_row (by omega)))
                  refine hK.out _ _ ?_ ?_
                  · exact HSW.out _ B98.out B48.out HBE8.out
                  clear hK K
                  (try simp only [Act.put, List.setIfInBounds_toArray, List.set_cons_zero, List.set_cons_succ])
                  refine wpAnyT_done (by kernel_rfl) ?_
                  simp only [List.drop_succ_cons, List.drop_zero]
                  obtain ⟨t0, t1, t2, tf⟩ := B98.out.cells3
                  go_wp2_with fail
                  refine NoPanic.normal ?_
                  go_wp2_with fail
                  go_meet
                  rw [HX.out, HY.out]
                  exact ⟨G', cg', H', ch', (B48.out.far (by simp <;> omega) _).far (by simp <;> omega) _, (B88.out.far (by simp) _).far (by simp) _, (B98.out.setCell 0 _).setCell 1 _, (HM8.out.setCell (by simp) _).setCell (by simp) _, (HBE8.out.setCell (by simp <;> omega) _).setCell (by simp <;> omega) _⟩
                exact AllReadyT.nil
              exact AllReadyT.nil
            refine AllReadyT.cons rfl rfl (fun K hK => ?_) ?_
            · skip
              go_simp
              refine hK.out _ _ ?_ ?_
              · exact HSW.out _ (show Blk _ (w.heap.size + 2) 44 (mcs G j cg H j ch f) from (by repeat (first | (with_reducible exact HRR.out.p9) | (with_reducible exact B97.out) | (with_reducible refine Blk.alloc ?_ _) | (with_reducible refine Blk.drew ?_)))) (show Blk _ (w.heap.size) 44 (mcs (some ⟨b, off, none⟩) m c (some ⟨b', off', none⟩) m d f) from (by repeat (first | (with_reducible exact HRR.out.p4) | (with_reducible exact B47.out) | (with_reducible refine Blk.alloc ?_ _) | (with_reducible refine Blk.drew ?_)))) (show Below w.heap.size w _ from (by repeat (first | (with_reducible exact HRR.out.be) | (with_reducible exact HBE7.out) | (with_reducible refine Below.alloc ?_ (by first | omega | (simp; done) | (simp; omega) | (simp only [World.size_alloc, World.size_drew]; omega)) _) | (with_reducible refine Below.drew ?_))))
              clear hK K
              (try simp only [Act.put, List.setIfInBounds_toArray, List.set_cons_zero, List.set_cons_succ])
              refine wpAnyT_ready [8] (by kernel_rfl) (by simp) ?_
              refine AllReadyT.cons rfl rfl (fun K hK => ?_) ?_
              · skip
                refine' step_appq u64v 0 _ rfl _ _ 24 rfl (w.heap.size + 3) 27 i0 _ 8 Try.underlying24 hi0 hz00 hz01 hz02 rfl G j cg xs rfl ?hown6n19 wr.heap.size _ 1 _ [xj] rfl ?hr6n19 (fun _ => rfl) (by simp only [maxLen]; omega) (by omega) ?hb6n19 ?hK6n19
                case hown6n19 => exact (show Mown _ (w.heap.size + 3) G j cg H j ch xs ys from (by repeat (first | (with_reducible exact HM.out) | (with_reducible refine Mown.alloc ?_ _) | (with_reducible refine Mown.drew ?_)))).oa
                case hr6n19 => (repeat (first | (with_reducible exact slq_one (by first | omega | (simp; done) | (simp; omega) | (simp only [World.size_alloc, World.size_drew]; omega)) (by first | omega | (simp; done) | (simp; omega) | (simp only [World.size_alloc, World.size_drew]; omega))) | (with_reducible exact slq_one rfl (by first | omega | (simp; done) | (simp; omega) | (simp only [World.size_alloc, World.size_drew]; omega))) | (with_reducible refine slq_drew ?_) | (with_reducible refine slq_alloc ?_ _) | (with_reducible refine slq_grown ?_ hg1 (fun k hk => HMlt.out k hk))))
                case hb6n19 => (first | omega | (simp; done) | (simp; omega) | (simp only [World.size_alloc, World.size_drew]; omega))
                intro G' cg' w7 og1 hg1 hat1
                have HM7 := hid (Mown.appA (show Mown _ (w.heap.size + 3) G j cg H j ch xs ys from (by repeat (first | (with_reducible exact HM.out) | (with_reducible refine Mown.alloc ?_ _) | (with_reducible refine Mown.drew ?_)))) (by first | omega | (simp; done) | (simp; omega) | (simp only [World.size_alloc, World.size_drew]; omega)) hg1 hat1 og1 (by omega))
                have B97 := hid (Blk.grown (show Blk _ (w.heap.size + 2) 44 (mcs G j cg H j ch f) from (by repeat (first | (with_reducible exact HRR.out.p9) | (with_reducible exact B97.out) | (with_reducible refine Blk.alloc ?_ _) | (with_reducible refine Blk.drew ?_)))) hg1 ((show Mown _ (w.heap.size + 3) G j cg H j ch xs ys from (by repeat (first | (with_reducible exact HM.out) | (with_reducible refine Mown.alloc ?_ _) | (with_reducible refine Mown.drew ?_)))).oa.ne_row (by omega)))
                have hz7 := hg1.size
                (try simp at hz7)
                have HBE7 := hid (Below.grown (show Below w.heap.size w _ from (by repeat (first | (with_reducible exact HRR.out.be) | (with_reducible refine Below.alloc ?_ (by first | omega | (simp; done) | (simp; omega) | (simp only [World.size_alloc, World.size_drew]; omega)) _) | (with_reducible refine Below.drew ?_)))) hg1 (by first | omega | (simp; done) | (simp; omega) | (simp only [World.size_alloc, World.size_drew]; omega)) (fun k hk => by have := (show Mown _ (w.heap.size + 3) G j cg H j ch xs ys from (by repeat (first | (with_reducible exact HM.out) | (with_reducible refine Mown.alloc ?_ _) | (with_reducible refine Mown.drew ?_)))).oa.row_ge k hk; omega))
                have B47 := hid (Blk.grown (show Blk _ (w.heap.size) 44 (mcs (some ⟨b, off, none⟩) m c (some ⟨b', off', none⟩) m d f) from (by repeat (first | (with_reducible exact HRR.out.p4) | (with_reducible refine Blk.alloc ?_ _) | (with_reducible refine Blk.drew ?_)))) hg1 ((show Mown _ (w.heap.size + 3) G j cg H j ch xs ys from (by repeat (first | (with_reducible exact HM.out) | (with_reducible refine Mown.alloc ?_ _) | (with_reducible refine Mown.drew ?_)))).oa.ne_row (by omega)))
                have B87 := hid (Blk.grown (show Blk _ (w.heap.size + 1) 44 (mcs none 0 0 none 0 0 false) from (by repeat (first | (with_reducible exact HRR.out.p8) | (with_reducible refine Blk.alloc ?_ _) | (with_reducible refine Blk.drew ?_)))) hg1 ((show Mown _ (w.heap.size + 3) G j cg H j ch xs ys from (by repeat (first | (with_reducible exact HM.out) | (with_reducible refine Mown.alloc ?_ _) | (with_reducible refine Mown.drew ?_)))).oa.ne_row (by omega)))
                refine hK.out _ _ ?_ ?_
                · exact HSW.out _ B97.out B47.out HBE7.out
                clear hK K
                (try simp only [Act.put, List.setIfInBounds_toArray, List.set_cons_zero, List.set_cons_succ])
                have hS := HSW.out _ B97.out B47.out HBE7.out
                refine wpAnyT_take (i := 18) (v := ?_) (by kernel_rfl) rfl (by kernel_rfl) (fun _ _ _ h => h) (Or.inl ⟨by rfl, ?_⟩) hS ?_
                rotate_left
                · intro w' hSw; have hs := SSout.out w' hSw; have hs0 := hs.1; have hs1 := hs.2.1; have hs2 := hs.2.2.1; have hs3 := hs.2.2.2.1; have hs4 := hs.2.2.2.2.1; have hs5 := hs.2.2.2.2.2; clear hs; go_simp; (try with_reducible rfl)
                clear hS
                (try simp only [Act.put, List.setIfInBounds_toArray, List.set_cons_zero, List.set_cons_succ])
                refine wpAnyT_ready [17] (by kernel_rfl) (by simp) ?_
                refine AllReadyT.cons rfl rfl (fun K hK => ?_) ?_
                · skip
                  refine' step_appq blv false _ rfl _ _ 42 rfl (w.heap.size + 3) 4 i1 _ 1 Try.underlying42 hi1 hz10 hz11 hz12 rfl H j ch ys rfl ?hown7n19 wr.heap.size _ 1 _ [yj] rfl ?hr7n19 (fun _ => rfl) (by simp only [maxLen]; omega) (by omega) ?hb7n19 ?hK7n19
                  case hown7n19 => exact (show Mown _ (w.heap.size + 3) G' (j + 1) cg' H j ch (xs ++ [xj]) ys from (by repeat (first | (with_reducible exact HM7.out) | (with_reducible refine Mown.alloc ?_ _) | (with_reducible refine Mown.drew ?_)))).ob
                  case hr7n19 => (repeat (first | (with_reducible exact slq_one (by first | omega | (simp; done) | (simp; omega) | (simp only [World.size_alloc, World.size_drew]; omega)) (by first | omega | (simp; done) | (simp; omega) | (simp only [World.size_alloc, World.size_drew]; omega))) | (with_reducible exact slq_one rfl (by first | omega | (simp; done) | (simp; omega) | (simp only [World.size_alloc, World.size_drew]; omega))) | (with_reducible refine slq_drew ?_) | (with_reducible refine slq_alloc ?_ _) | (with_reducible refine slq_grown ?_ hg1 (fun k hk => HMlt.out k hk))))
                  case hb7n19 => (first | omega | (simp; done) | (simp; omega) | (simp only [World.size_alloc, World.size_drew]; omega))
                  intro H' ch' w8 og2 hg2 hat2
                  have HM8 := hid (Mown.appB (show Mown _ (w.heap.size + 3) G' (j + 1) cg' H j ch (xs ++ [xj]) ys from (by repeat (first | (with_reducible exact HM7.out) | (with_reducible refine Mown.alloc ?_ _) | (with_reducible refine Mown.drew ?_)))) (by first | omega | (simp; done) | (simp; omega) | (simp only [World.size_alloc, World.size_drew]; omega)) hg2 hat2 og2 (by omega))
                  have B98 := hid (Blk.grown (show Blk _ (w.heap.size + 2) 44 (mcs G j cg H j ch f) from (by repeat (first | (with_reducible exact B97.out) | (with_reducible refine Blk.alloc ?_ _) | (with_reducible refine Blk.drew ?_)))) hg2 ((show Mown _ (w.heap.size + 3) G' (j + 1) cg' H j ch (xs ++ [xj]) ys from (by repeat (first | (with_reducible exact HM7.out) | (with_reducible refine Mown.alloc ?_ _) | (with_reducible refine Mown.drew ?_)))).ob.ne_row (by omega)))
                  have HBE8 := hid (Below.grown (show Below w.heap.size w _ from (by repeat (first | (with_reducible exact HBE7.out) | (with_reducible refine Below.alloc ?_ (by first | omega | (simp; done) | (simp; omega) | (simp only [World.size_alloc, World.size_drew]; omega)) _) | (with_reducible refine Below.drew ?_)))) hg2 (by first | omega | (simp; done) | (simp; omega) | (simp only [World.size_alloc, World.size_drew]; omega)) (fun k hk => by have := (show Mown _ (w.heap.size + 3) G' (j + 1) cg' H j ch (xs ++ [xj]) ys from (by repeat (first | (with_reducible exact HM7.out) | (with_reducible refine Mown.alloc ?_ _) | (with_reducible refine Mown.drew ?_)))).ob.row_ge k hk; omega))
                  have B48 := hid (Blk.grown (show Blk _ (w.heap.size) 44 (mcs (some ⟨b, off, none⟩) m c (some ⟨b', off', none⟩) m d f) from (by repeat (first | (with_reducible exact B47.out) | (with_reducible refine Blk.alloc ?_ _) | (with_reducible refine Blk.drew ?_)))) hg2 ((show Mown _ (w.heap.size + 3) G' (j + 1) cg' H j ch (xs ++ [xj]) ys from (by repeat (first | (with_reducible exact HM7.out) | (with_reducible refine Mown.alloc ?_ _) | (with_reducible refine Mown.drew ?_)))).ob.ne_row (by omega)))
                  have B88 := hid (Blk.grown (show Blk _ (w.heap.size + 1) 44 (mcs none 0 0 none 0 0 false) from (by repeat (first | (with_reducible exact B87.out) | (with_reducible refine Blk.alloc ?_ _) | (with_reducible refine Blk.drew ?_)))) hg2 ((show Mown _ (w.heap.size + 3) G' (j + 1) cg' H j ch (xs ++ [xj]) ys from (by repeat (first | (with_reducible exact HM7.out) | (with_reducible refine Mown.alloc ?_ _) | (with_reducible refine Mown.drew ?_)))).ob.ne_row (by omega)))
                  refine hK.out _ _ ?_ ?_
                  · exact HSW.out _ B98.out B48.out HBE8.out
                  clear hK K
                  (try simp only [Act.put, List.setIfInBounds_toArray, List.set_cons_zero, List.set_cons_succ])
                  refine wpAnyT_done (by kernel_rfl) ?_
                  simp only [List.drop_succ_cons, List.drop_zero]
                  obtain ⟨t0, t1, t2, tf⟩ := B98.out.cells3
                  go_wp2_with fail
                  refine NoPanic.normal ?_
                  go_wp2_with fail
                  go_meet
                  rw [HX.out, HY.out]
                  exact ⟨G', cg', H', ch', (B48.out.far (by simp <;> omega) _).far (by simp <;> omega) _, (B88.out.far (by simp) _).far (by simp) _, (B98.out.setCell 0 _).setCell 1 _, (HM8.out.setCell (by simp) _).setCell (by simp) _, (HBE8.out.setCell (by simp <;> omega) _).setCell (by simp <;> omega) _⟩
                exact AllReadyT.nil
              exact AllReadyT.nil
            exact AllReadyT.nil
          refine AllReadyT.cons rfl rfl (fun K hK => ?_) ?_
          · skip
            go_simp
            refine hK.out _ _ ?_ ?_
            · exact HSW.out _ (show Blk _ (w.heap.size + 2) 44 (mcs G j cg H j ch f) from (by repeat (first | (with_reducible exact HRR.out.p9) | (with_reducible exact B97.out) | (with_reducible refine Blk.alloc ?_ _) | (with_reducible refine Blk.drew ?_)))) (show Blk _ (w.heap.size) 44 (mcs (some ⟨b, off, none⟩) m c (some ⟨b', off', none⟩) m d f) from (by repeat (first | (with_reducible exact HRR.out.p4) | (with_reducible exact B47.out) | (with_reducible refine Blk.alloc ?_ _) | (with_reducible refine Blk.drew ?_)))) (show Below w.heap.size w _ from (by repeat (first | (with_reducible exact HRR.out.be) | (with_reducible exact HBE7.out) | (with_reducible refine Below.alloc ?_ (by first | omega | (simp; done) | (simp; omega) | (simp only [World.size_alloc, World.size_drew]; omega)) _) | (with_reducible refine Below.drew ?_))))
            clear hK K
            (try simp only [Act.put, List.setIfInBounds_toArray, List.set_cons_zero, List.set_cons_succ])
            refine wpAnyT_ready [7] (by kernel_rfl) (by simp) ?_
            refine AllReadyT.cons rfl rfl (fun K hK => ?_) ?_
            · skip
              go_simp
              refine hK.out _ _ ?_ ?_
              · exact HSW.out _ (show Blk _ (w.heap.size + 2) 44 (mcs G j cg H j ch f) from (by repeat (first | (with_reducible exact HRR.out.p9) | (with_reducible exact B97.out) | (with_reducible refine Blk.alloc ?_ _) | (with_reducible refine Blk.drew ?_)))) (show Blk _ (w.heap.size) 44 (mcs (some ⟨b, off, none⟩) m c (some ⟨b', off', none⟩) m d f) from (by repeat (first | (with_reducible exact HRR.out.p4) | (with_reducible exact B47.out) | (with_reducible refine Blk.alloc ?_ _) | (with_reducible refine Blk.drew ?_)))) (show Below w.heap.size w _ from (by repeat (first | (with_reducible exact HRR.out.be) | (with_reducible exact HBE7.out) | (with_reducible refine Below.alloc ?_ (by first | omega | (simp; done) | (simp; omega) | (simp only [World.size_alloc, World.size_drew]; omega)) _) | (with_reducible refine Below.drew ?_))))
              clear hK K
              (try simp only [Act.put, List.setIfInBounds_toArray, List.set_cons_zero, List.set_cons_succ])
              refine wpAnyT_ready [8] (by kernel_rfl) (by simp) ?_
              refine AllReadyT.cons rfl rfl (fun K hK => ?_) ?_
              · skip
                refine' step_appq u64v 0 _ rfl _ _ 24 rfl (w.heap.size + 3) 27 i0 _ 8 Try.underlying24 hi0 hz00 hz01 hz02 rfl G j cg xs rfl ?hown10n19 wr.heap.size _ 1 _ [xj] rfl ?hr10n19 (fun _ => rfl) (by simp only [maxLen]; omega) (by omega) ?hb10n19 ?hK10n19
                case hown10n19 => exact (show Mown _ (w.heap.size + 3) G j cg H j ch xs ys from (by repeat (first | (with_reducible exact HM.out) | (with_reducible refine Mown.alloc ?_ _) | (with_reducible refine Mown.drew ?_)))).oa
                case hr10n19 => (repeat (first | (with_reducible exact slq_one (by first | omega | (simp; done) | (simp; omega) | (simp only [World.size_alloc, World.size_drew]; omega)) (by first | omega | (simp; done) | (simp; omega) | (simp only [World.size_alloc, World.size_drew]; omega))) | (with_reducible exact slq_one rfl (by first | omega | (simp; done) | (simp; omega) | (simp only [World.size_alloc, World.size_drew]; omega))) | (with_reducible refine slq_drew ?_) | (with_reducible refine slq_alloc ?_ _) | (with_reducible refine slq_grown ?_ hg1 (fun k hk => HMlt.out k hk))))
                case hb10n19 => (first | omega | (simp; done) | (simp; omega) | (simp only [World.size_alloc, World.size_drew]; omega))
                intro G' cg' w7 og1 hg1 hat1
                have HM7 := hid (Mown.appA (show Mown _ (w.heap.size + 3) G j cg H j ch xs ys from (by repeat (first | (with_reducible exact HM.out) | (with_reducible refine Mown.alloc ?_ _) | (with_reducible refine Mown.drew ?_)))) (by first | omega | (simp; done) | (simp; omega) | (simp only [World.size_alloc, World.size_drew]; omega)) hg1 hat1 og1 (by omega))
                have B97 := hid (Blk.grown (show Blk _ (w.heap.size + 2) 44 (mcs G j cg H j ch f) from (by repeat (first | (with_reducible exact HRR.out.p9) | (with_reducible exact B97.out) | (with_reducible refine Blk.alloc ?_ _) | (with_reducible refine Blk.drew ?_)))) hg1 ((show Mown _ (w.heap.size + 3) G j cg H j ch xs ys from (by repeat (first | (with_reducible exact HM.out) | (with_reducible refine Mown.alloc ?_ _) | (with_reducible refine Mown.drew ?_)))).oa.ne_row (by omega)))
                have hz7 := hg1.size
                (try simp at hz7)
                have HBE7 := hid (Below.grown (show Below w.heap.size w _ from (by repeat (first | (with_reducible exact HRR.out.be) | (with_reducible refine Below.alloc ?_ (by first | omega | (simp; done) | (simp; omega) | (simp only [World.size_alloc, World.size_drew]; omega)) _) | (with_reducible refine Below.drew ?_)))) hg1 (by first | omega | (simp; done) | (simp; omega) | (simp only [World.size_alloc, World.size_drew]; omega)) (fun k hk => by have := (show Mown _ (w.heap.size + 3) G j cg H j ch xs ys from (by repeat (first | (with_reducible exact HM.out) | (with_reducible refine Mown.alloc ?_ _) | (with_reducible refine Mown.drew ?_)))).oa.row_ge k hk; omega))
                have B47 := hid (Blk.grown (show Blk _ (w.heap.size) 44 (mcs (some ⟨b, off, none⟩) m c (some ⟨b', off', none⟩) m d f) from (by repeat (first | (with_reducible exact HRR.out.p4) | (with_reducible refine Blk.alloc ?_ _) | (with_reducible refine Blk.drew ?_)))) hg1 ((show Mown _ (w.heap.size + 3) G j cg H j ch xs ys from (by repeat (first | (with_reducible exact HM.out) | (with_reducible refine Mown.alloc ?_ _) | (with_reducible refine Mown.drew ?_)))).oa.ne_row (by omega)))
                have B87 := hid (Blk.grown (show Blk _ (w.heap.size + 1) 44 (mcs none 0 0 none 0 0 false) from (by repeat (first | (with_reducible exact HRR.out.p8) | (with_reducible refine Blk.alloc ?_ _) | (with_reducible refine Blk.drew ?_)))) hg1 ((show Mown _ (w.heap.size + 3) G j cg H j ch xs ys from (by repeat (first | (with_reducible exact HM.out) | (with_reducible refine Mown.alloc ?_ _) | (with_reducible refine Mown.drew ?_)))).oa.ne_row (by omega)))
                refine hK.out _ _ ?_ ?_
                · exact HSW.out _ B97.out B47.out HBE7.out
                clear hK K
                (try simp only [Act.put, List.setIfInBounds_toArray, List.set_cons_zero, List.set_cons_succ])
                have hS := HSW.out _ B97.out B47.out HBE7.out
                refine wpAnyT_take (i := 18) (v := ?_) (by kernel_rfl) rfl (by kernel_rfl) (fun _ _ _ h => h) (Or.inl ⟨by rfl, ?_⟩) hS ?_
                rotate_left
                · intro w' hSw; have hs := SSout.out w' hSw; have hs0 := hs.1; have hs1 := hs.2.1; have hs2 := hs.2.2.1; have hs3 := hs.2.2.2.1; have hs4 := hs.2.2.2.2.1; have hs5 := hs.2.2.2.2.2; clear hs; go_simp; (try with_reducible rfl)
                clear hS
                (try simp only [Act.put, List.setIfInBounds_toArray, List.set_cons_zero, List.set_cons_succ])
                refine wpAnyT_ready [17] (by kernel_rfl) (by simp) ?_
                refine AllReadyT.cons rfl rfl (fun K hK => ?_) ?_
                · skip
                  refine' step_appq blv false _ rfl _ _ 42 rfl (w.heap.size + 3) 4 i1 _ 1 Try.underlying42 hi1 hz10 hz11 hz12 rfl H j ch ys rfl ?hown11n19 wr.heap.size _ 1 _ [yj] rfl ?hr11n19 (fun _ => rfl) (by simp only [maxLen]; omega) (by omega) ?hb11n19 ?hK11n19
                  case hown11n19 => exact (show Mown _ (w.heap.size + 3) G' (j + 1) cg' H j ch (xs ++ [xj]) ys from (by repeat (first | (with_reducible exact HM7.out) | (with_reducible refine Mown.alloc ?_ _) | (with_reducible refine Mown.drew ?_)))).ob
                  case hr11n19 => (repeat (first | (with_reducible exact slq_one (by first | omega | (simp; done) | (simp; omega) | (simp only [World.size_alloc, World.size_drew]; omega)) (by first | omega | (simp; done) | (simp; omega) | (simp only [World.size_alloc, World.size_drew]; omega))) | (with_reducible exact slq_one rfl (by first | omega | (simp; done) | (simp; omega) | (simp only [World.size_alloc, World.size_drew]; omega))) | (with_reducible refine slq_drew ?_) | (with_reducible refine slq_alloc ?_ _) | (with_reducible refine slq_grown ?_ hg1 (fun k hk => HMlt.out k hk))))
                  case hb11n19 => (first | omega | (simp; done) | (simp; omega) | (simp only [World.size_alloc, World.size_drew]; omega))
                  intro H' ch' w8 og2 hg2 hat2
                  have HM8 := hid (Mown.appB (show Mown _ (w.heap.size + 3) G' (j + 1) cg' H j ch (xs ++ [xj]) ys from (by repeat (first | (with_reducible exact HM7.out) | (with_reducible refine Mown.alloc ?_ _) | (with_reducible refine Mown.drew ?_)))) (by first | omega | (simp; done) | (simp; omega) | (simp only [World.size_alloc, World.size_drew]; omega)) hg2 hat2 og2 (by omega))
                  have B98 := hid (Blk.grown (show Blk _ (w.heap.size + 2) 44 (mcs G j cg H j ch f) from (by repeat (first | (with_reducible exact B97.out) | (with_reducible refine Blk.alloc ?_ _) | (with_reducible refine Blk.drew ?_)))) hg2 ((show Mown _ (w.heap.size + 3) G' (j + 1) cg' H j ch (xs ++ [xj]) ys from (by repeat (first | (with_reducible exact HM7.out) | (with_reducible refine Mown.alloc ?_ _) | (with_reducible refine Mown.drew ?_)))).ob.ne_row (by omega)))
                  have HBE8 := hid (Below.grown (show Below w.heap.size w _ from (by repeat (first | (with_reducible exact HBE7.out) | (with_reducible refine Below.alloc ?_ (by first | omega | (simp; done) | (simp; omega) | (simp only [World.size_alloc, World.size_drew]; omega)) _) | (with_reducible refine Below.drew ?_)))) hg2 (by first | omega | (simp; done) | (simp; omega) | (simp only [World.size_alloc, World.size_drew]; omega)) (fun k hk => by have := (show Mown _ (w.heap.size + 3) G' (j + 1) cg' H j ch (xs ++ [xj]) ys from (by repeat (first | (with_reducible exact HM7.out) | (with_reducible refine Mown.alloc ?_ _) | (with_reducible refine Mown.drew ?_)))).ob.row_ge k hk; omega))
                  have B48 := hid (Blk.grown (show Blk _ (w.heap.size) 44 (mcs (some ⟨b, off, none⟩) m c (some ⟨b', off', none⟩) m d f) from (by repeat (first | (with_reducible exact B47.out) | (with_reducible refine Blk.alloc ?_ _) | (with_reducible refine Blk.drew ?_)))) hg2 ((show Mown _ (w.heap.size + 3) G' (j + 1) cg' H j ch (xs ++ [xj]) ys from (by repeat (first | (with_reducible exact HM7.out) | (with_reducible refine Mown.alloc ?_ _) | (with_reducible refine Mown.drew ?_)))).ob.ne_row (by omega)))
                  have B88 := hid (Blk.grown (show Blk _ (w.heap.size + 1) 44 (mcs none 0 0 none 0 0 false) from (by repeat (first | (with_reducible exact B87.out) | (with_reducible refine Blk.alloc ?_ _) | (with_reducible refine Blk.drew ?_)))) hg2 ((show Mown _ (w.heap.size + 3) G' (j + 1) cg' H j ch (xs ++ [xj]) ys from (by repeat (first | (with_reducible exact HM7.out) | (with_reducible refine Mown.alloc ?_ _) | (with_reducible refine Mown.drew ?_)))).ob.ne_row (by omega)))
                  refine hK.out _ _ ?_ ?_
                  · exact HSW.out _ B98.out B48.out HBE8.out
                  clear hK K
                  (try simp only [Act.put, List.setIfInBounds_toArray, List.set_cons_zero, List.set_cons_succ])
                  refine wpAnyT_done (by kernel_rfl) ?_
                  simp only [List.drop_succ_cons, List.drop_zero]
                  obtain ⟨t0, t1, t2, tf⟩ := B98.out.cells3
                  go_wp2_with fail
                  refine NoPanic.normal ?_
                  go_wp2_with fail
                  go_meet
                  rw [HX.out, HY.out]
                  exact ⟨G', cg', H', ch', (B48.out.far (by simp <;> omega) _).far (by simp <;> omega) _, (B88.out.far (by simp) _).far (by simp) _, (B98.out.setCell 0 _).setCell 1 _, (HM8.out.setCell (by simp) _).setCell (by simp) _, (HBE8.out.setCell (by simp <;> omega) _).setCell (by simp <;> omega) _⟩
                exact AllReadyT.nil
              exact AllReadyT.nil
            exact AllReadyT.nil
          exact AllReadyT.nil
      case rest =>
        obtain ⟨G', cg', H', ch', hr'⟩ := hcut
        go_wp2_with fail
        go_roundw
        case rel => exact ⟨j + 1, G', cg', H', ch', by omega, by go_num, hr'⟩
        case measure => simp [intOf]; omega
    · obtain rfl : j = m := by omega
      have hlw := hid (show (ws.set k x).take j = ws.set k x from List.take_of_length_le (by have := HR.out.lenx; simp; omega))
      have hll := hid (show (ls.set k y).take j = ls.set k y from List.take_of_length_le (by have := HR.out.leny; simp; omega))
      obtain ⟨k0, k1, k2, kf⟩ := hr.p9.cells3
      obtain ⟨q0, q1, q2, qf⟩ := hr.p8.cells3
      clear hr
      go_wp2
      obtain ⟨z0, z1, z2, zf⟩ := (((HRR.out.p8.setCell 0 (.slice G j cg)).setCell 1 (.slice H j ch)).setCell 2 (.bool f)).cells3
      refine bodyPost_ret (v := mv G j cg H j ch f) (by simp [results, Try.results75, go_sem, z0, z1, z2]) rfl ?_
      rw [← hlw.out, ← hll.out]
      exact ⟨G, j, cg, H, j, ch, rfl, (((HRR.out.om.setCell (by simp) _).setCell (by simp) _).setCell (by simp) _).mono (by omega), ((HRR.out.be.setCell (by simp) _).setCell (by simp) _).setCell (by simp) _⟩
end Go.Proofs.Ytnkaajkdjbdpaaa
