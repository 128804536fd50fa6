/- Chapter 06, SeqWhole: rows of values; the closure that compares; what the words hold behind so many writes. No condition but sizes. -/
import Derived.Test.YtnkaajkdjbdpaaaSq15
import Derived.Test.YtnkaajkdjbdpaaaSqPl
import Derived.Test.YtnkaajkdjbdpaaaOpenTr
import Derived.Test.YtnkaajkdjbdpaaaKitA
namespace Go.Proofs.Ytnkaajkdjbdpaaa
open Go.RowKit
/-- values, and where they lie -/
abbrev VlE := List Int × Option Addr × Nat × Nat
def zVl : VlE := ([], none, 0, 0)
def encV (x : VlE) : Value := .slice x.2.1 x.2.2.1 x.2.2.2
theorem encV_one (y : VlE) : (encV y).oneCell' = true := rfl
theorem info_vls : (Try.prog.info? 24).map (fun i => (i.zero, i.size, i.bytes)) = some (some (.slice none 0 0), 1, 24) := by kernel_rfl
def OwAll (W : World) (lo : Nat) (es : List VlE) : Prop := ∀ x ∈ es, Ow u64v W lo 27 x.2.1 x.2.2.1 x.2.2.2 x.1
section
variable {W W' : World} {lo : Nat} {es : List VlE}
theorem OwAll.step (h : OwAll W lo es) (hb : Below W.heap.size W W') : OwAll W' lo es := fun x hx => (h x hx).step hb
theorem OwAll.snoc {x : VlE} (h : OwAll W lo es) (hx : Ow u64v W lo 27 x.2.1 x.2.2.1 x.2.2.2 x.1) : OwAll W lo (es ++ [x]) := fun y hy => by
  rcases List.mem_append.1 hy with h1 | h1
  · exact h y h1
  · rw [List.mem_singleton] at h1; subst h1; exact hx
theorem OwAll.keptM {α : Type} {sz : Nat} {enc : α → Nat → Value} {lo2 : Nat} {e : TypeId} {A : Option Addr} {n c : Nat} {xs : List α} (h : OwAll W lo es) (ho : Om sz enc W lo2 e A n c xs) (hne : 27 ≠ e) (hg : W.grownBy W' (Value.slice A n c).ownBlock) : OwAll W' lo es :=
  fun x hx => (h x hx).keptM ho hne hg
theorem OwAll.keptO {α : Type} {enc : α → Value} {lo2 : Nat} {e : TypeId} {A : Option Addr} {n c : Nat} {xs : List α} (h : OwAll W lo es) (ho : Ow enc W lo2 e A n c xs) (hne : 27 ≠ e) (hg : W.grownBy W' (Value.slice A n c).ownBlock) : OwAll W' lo es :=
  fun x hx => (h x hx).keptO ho hne hg
theorem OwAll.kept {g : Nat} {t : TypeId} {cs : Array Value} (h : OwAll W lo es) (hb : Blk W g t cs) (h1 : t ≠ 27) (hg : W.grownBy W' (some g)) : OwAll W' lo es :=
  fun x hx => (h x hx).keptG hg fun v hv e => (h x hx).ne_blk hb h1 v hv (by simpa using e)
theorem OwAll.at_ (h : OwAll W lo es) {k : Nat} (hk : k < es.length) : Ow u64v W lo 27 (es[k]?.getD zVl).2.1 (es[k]?.getD zVl).2.2.1 (es[k]?.getD zVl).2.2.2 (es[k]?.getD zVl).1 := by
  rw [List.getElem?_eq_getElem hk]; exact h _ (List.getElem_mem hk)
end
/-- a block of three words, cut -/
theorem Blk.cut3 {W : World} {g N : Nat} {t : TypeId} {a b c : Int} (h : Blk W g t #[.int .u64 a, .int .u64 b, .int .u64 c]) (hN : N ≤ 3) : Sl u64v 0 W 0 W.heap.size (some ⟨g, 0, none⟩) N ([a, b, c].take N) := by
  refine ⟨by simp; omega, fun _ => ⟨g, 0, rfl, Nat.zero_le _, h.lt, fun k hk => ?_⟩⟩
  rw [Nat.zero_add, h.cell k, List.getElem?_take, if_pos hk]
  have hk3 : k = 0 ∨ k = 1 ∨ k = 2 := by omega
  rcases hk3 with rfl | rfl | rfl <;> rfl
def trL (x : Trp) : List Int := [x.1, x.2.1, x.2.2]
/-- what the words hold behind so many writes -/
def sqV (N : Nat) (rs : List Trp) : Nat → List Int
  | 0 => List.replicate N 0
  | i + 1 => (trL (rs[i]?.getD (0, 0, 0))).take N
theorem sqV_ok {N Nw : Nat} {rs : List Trp} (h1 : 1 ≤ N) (h3 : N ≤ 3) (h4 : Nw ≤ 4) (hr : ∀ y ∈ rs, TrpOk y) : SqV (sqV N rs) Nw N := by
  refine ⟨fun i _ => ?_, h1, h3, h4, fun i _ y hy => ?_⟩
  · cases i with
    | zero => simp [sqV]
    | succ i => simp [sqV, trL]; omega
  · cases i with
    | zero => obtain ⟨_, rfl⟩ := List.mem_replicate.1 hy; omega
    | succ i =>
      have hy' := List.mem_of_mem_take hy
      have ht : TrpOk (rs[i]?.getD (0, 0, 0)) := by
        rcases Nat.lt_or_ge i rs.length with h | h
        · rw [List.getElem?_eq_getElem h]; exact hr _ (List.getElem_mem h)
        · rw [List.getElem?_eq_none h]; unfold TrpOk; decide
      unfold trL at hy'
      simp only [List.mem_cons, List.not_mem_nil, or_false] at hy'
      obtain ⟨a, b, c⟩ := ht
      rcases hy' with rfl | rfl | rfl <;> assumption
/-- the first that holds these values, or -1 -/
def fVl (us : List Int) : List VlE → Int
  | [] => -1
  | x :: l => if x.1 = us then 0 else if fVl us l < 0 then -1 else fVl us l + 1
theorem fVl_at (us : List Int) : ∀ (l : List VlE) (j : Nat), j < l.length → (∀ k, k < j → (l[k]?.getD zVl).1 ≠ us) → (l[j]?.getD zVl).1 = us → fVl us l = j
  | [], j, h, _, _ => absurd h (by simp)
  | x :: l, 0, _, _, h => by simp only [List.getElem?_cons_zero, Option.getD_some] at h; simp [fVl, h]
  | x :: l, j + 1, hj, hk, h => by
    have h0 := hk 0 (by omega)
    simp only [List.getElem?_cons_zero, Option.getD_some] at h0
    have := fVl_at us l j (by simpa using hj) (fun k hk' => by have := hk (k + 1) (by omega); simpa using this) (by simpa using h)
    simp only [fVl, h0, this, if_false]
    rw [if_neg (by omega)]
    omega
theorem fVl_no (us : List Int) : ∀ (l : List VlE), (∀ k, k < l.length → (l[k]?.getD zVl).1 ≠ us) → fVl us l = -1
  | [], _ => rfl
  | x :: l, h => by
    have h0 := h 0 (by simp)
    simp only [List.getElem?_cons_zero, Option.getD_some] at h0
    have := fVl_no us l (fun k hk => by have := h (k + 1) (by simpa using hk); simpa using this)
    simp [fVl, h0, this]
theorem fVl_some (us : List Int) : ∀ (l : List VlE), (∃ x ∈ l, x.1 = us) → 0 ≤ fVl us l
  | [], h => by obtain ⟨x, hx, _⟩ := h; simp at hx
  | x :: l, h => by
    unfold fVl
    split
    · omega
    · rename_i hn
      have := fVl_some us l (by
        obtain ⟨y, hy, e⟩ := h
        rcases List.mem_cons.1 hy with rfl | hy
        · exact absurd e hn
        · exact ⟨y, hy, e⟩)
      rw [if_neg (by omega)]
      omega
set_option maxHeartbeats 2000000 in
theorem whclo_any (V : Option Addr) (n c : Nat) (vs : List Int) (g : Nat) (s : Srd) (U : Option Addr) (un uc : Nat) (w : World) (hv : Sl u64v 0 w 0 w.heap.size V n vs) (hn : n ≤ 1000000) (hp : Blk w g 29 (rdc s.a s.f s.m s.ph s.bg U un uc s.tr)) (hu : Sl u64v 0 w 0 w.heap.size U un s.vs) (hun : un ≤ 1000000) :
    Calls Try.prog 30 #[.slice V n c, .pointer (some ⟨g, 0, none⟩)] w fun e w' => e = .returned (.bool (decide (vs = s.vs))) ∧ Below w.heap.size w w' := by
  have HV := hid hv; have HU := hid hu
  obtain ⟨y0, y1, y2, y3, y4, y5, y6, yf⟩ := hp.cells7
  clear hv hu hp
  go_enter Try.func30, Try.ntmps30
  go_wp2_with fail
  clear y0 y1 y2 y3 y4 y5 y6 yf
  refine (equal_u64 V U n c un uc 0 _ 0 _ vs s.vs w HV.out HU.out hn hun).mono ?_
  rintro e w1 ⟨rfl, hb⟩
  have HB := hid hb
  clear hb
  go_wp2
  go_ret
  exact ⟨rfl, HB.out⟩
set_option maxHeartbeats 2000000 in
theorem ixwh_any (A : Option Addr) (n c lo B : Nat) (es : List VlE) (g : Nat) (s : Srd) (U : Option Addr) (un uc : Nat) (w : World) (h : Sl encV zVl w lo w.heap.size A n es) (hv : OwAll w B es) (hn : n ≤ 1000000) (hs : ∀ x ∈ es, x.2.2.1 ≤ 1000000)
    (hp : Blk w g 29 (rdc s.a s.f s.m s.ph s.bg U un uc s.tr)) (hu : Sl u64v 0 w 0 w.heap.size U un s.vs) (hun : un ≤ 1000000) :
    Calls Try.prog 54 #[.slice A n c, .func (.func 30) #[] #[.pointer (some ⟨g, 0, none⟩)]] w fun e w' => e = .returned (.int .i64 (fVl s.vs es)) ∧ Below w.heap.size w w' := by
  have eg := enters_of Try.func30 (by kernel_rfl) rfl
  have HR := hid h; have HV := hid hv; have HP := hid hp; have HU := hid hu; have HSM := hid hs
  have hl := hid h.len
  clear h hv hp hu hs
  go_enter Try.func54, Try.ntmps54
  go_wp2_with fail
  go_loopw [5, 8] (fun _ i wr => ∃ j : Nat, j ≤ n ∧ i = .int .i64 j ∧ Below w.heap.size w wr ∧ ∀ k, k < j → (es[k]?.getD zVl).1 ≠ s.vs) (fun _ i _ => n - (intOf i).toNat)
  case atStart => exact ⟨0, Nat.zero_le _, rfl, Below.refl _ _, fun k hk => absurd hk (Nat.not_lt_zero _)⟩
  case round =>
    obtain ⟨j, hj, rfl, hbr, hall⟩ := hrel
    have HA := hid hall; have HB := hid hbr
    clear hall hbr
    by_cases hjn : j < n
    · obtain ⟨b, off, rfl, _, hbh, hc⟩ := HR.out.row (by omega)
      have hvj := HV.out.at_ (k := j) (by rw [hl.out]; exact hjn)
      obtain ⟨⟨vs, V, vn, vc⟩, hx⟩ : ∃ x, x = es[j]?.getD zVl := ⟨_, rfl⟩
      have hc' := hc j hjn
      rw [← hx] at hc' hvj
      dsimp only at hvj
      have HVJ := hid (hvj.step HB.out)
      have hvn := hid (show vn ≤ 1000000 by
        have := HSM.out (es[j]?.getD zVl) (by rw [List.getElem?_eq_getElem (by rw [hl.out]; exact hjn)]; exact List.getElem_mem _)
        rw [← hx] at this; exact this)
      have f0 := (HB.out.cell (p := ⟨b, off + j, none⟩) hbh).trans hc'
      simp only [encV] at f0
      have HX := hid hx
      have hji : (j : Int) < (n : Int) := by omega
      clear hx hc hc' hvj
      go_wp2_with fail
      clear f0
      refine (whclo_any V vn vc vs g s U un uc wr (HVJ.out.sl.mono (Nat.zero_le _) (Nat.le_refl _)) hvn.out (HP.out.step HB.out) ((HU.out.below HB.out (Nat.le_refl _)).mono (Nat.le_refl _) HB.out.size) hun).mono ?_
      rintro e w1 ⟨rfl, hb⟩
      have HB1 := hid (below_then HB.out hb)
      clear hb
      obtain ⟨q, hq⟩ : ∃ q, q = decide (vs = s.vs) := ⟨_, rfl⟩
      rw [← hq]
      have HQ := hid hq
      clear hq
      rcases q with _ | _
      · go_wp2_with fail
        go_roundw
        case rel => exact ⟨j + 1, by omega, by go_num, HB1.out, fun k hk => by
          by_cases e : k = j
          · subst e; rw [← HX.out]; exact of_decide_eq_false HQ.out.symm
          · exact HA.out k (by omega)⟩
        case measure => simp [intOf]; omega
      · have E := hid (show fVl s.vs es = j from fVl_at _ es j (by rw [hl.out]; exact hjn) HA.out (by rw [← HX.out]; exact of_decide_eq_true HQ.out.symm))
        go_wp2
        go_ret
        exact ⟨ret_int E.out.symm, HB1.out⟩
    · obtain rfl : j = n := by omega
      have E := hid (show fVl s.vs es = -1 from fVl_no _ es (fun k hk => HA.out k (by rw [← hl.out]; exact hk)))
      go_wp2
      go_ret
      exact ⟨ret_int E.out.symm, HB.out⟩
theorem anywh_any (A : Option Addr) (n c lo B : Nat) (es : List VlE) (g : Nat) (s : Srd) (U : Option Addr) (un uc : Nat) (w : World) (h : Sl encV zVl w lo w.heap.size A n es) (hv : OwAll w B es) (hn : n ≤ 1000000) (hs : ∀ x ∈ es, x.2.2.1 ≤ 1000000)
    (hp : Blk w g 29 (rdc s.a s.f s.m s.ph s.bg U un uc s.tr)) (hu : Sl u64v 0 w 0 w.heap.size U un s.vs) (hun : un ≤ 1000000) :
    Calls Try.prog 29 #[.slice A n c, .func (.func 30) #[] #[.pointer (some ⟨g, 0, none⟩)]] w fun e w' => e = .returned (.bool (decide (0 ≤ fVl s.vs es))) ∧ Below w.heap.size w w' := by
  have HR := hid h; have HV := hid hv; have HP := hid hp; have HU := hid hu; have HSM := hid hs
  clear h hv hp hu hs
  go_enter Try.func29, Try.ntmps29
  go_wp2_with fail
  refine (ixwh_any A n c lo B es g s U un uc w HR.out HV.out hn HSM.out HP.out HU.out hun).mono ?_
  rintro e w1 ⟨rfl, hb⟩
  have HB := hid hb
  clear hb
  go_wp2
  go_ret
  exact ⟨ret_bool rfl, HB.out⟩
end Go.Proofs.Ytnkaajkdjbdpaaa
