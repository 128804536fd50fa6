/- package memory: the iterator spans, and slices.Index at flags. No condition but sizes. -/
import Derived.Test.YtenhojdhjfoomaaMEq
namespace Go.Proofs.Ytenhojdhjfoomaa
open Go.RowKit Go.Shelf
attribute [local go_sem] Oper.semAt_some

/-- how many flags are set from i on, one behind the other -/
def runLen (ls : List Bool) (i : Nat) : Nat := ((ls.drop i).takeWhile id).length
def idxF (xs : List Bool) : Int := if (xs.takeWhile id).length < xs.length then ((xs.takeWhile id).length : Int) else -1
theorem takeWhile_lt {xs : List Bool} {k : Nat} (hk : k < xs.length) (h : ∀ j, j < k → xs[j]?.getD false = true) (hf : xs[k]?.getD false = false) : (xs.takeWhile id).length = k := by
  induction xs generalizing k with
  | nil => simp at hk
  | cons x xs ih =>
    cases k with
    | zero => simp at hf; subst hf; rfl
    | succ k =>
      have h0 := h 0 (by omega)
      simp at h0
      subst h0
      rw [List.takeWhile_cons_of_pos rfl, List.length_cons, ih (by simpa using hk) (fun j hj => by simpa using h (j + 1) (by omega)) (by simpa using hf)]
theorem takeWhile_all {xs : List Bool} (h : ∀ j, j < xs.length → xs[j]?.getD false = true) : (xs.takeWhile id).length = xs.length := by
  induction xs with
  | nil => rfl
  | cons x xs ih =>
    have h0 := h 0 (by simp)
    simp at h0
    subst h0
    rw [List.takeWhile_cons_of_pos rfl, List.length_cons, ih (fun j hj => by simpa using h (j + 1) (by simpa using hj)), List.length_cons]
set_option maxHeartbeats 1000000 in
theorem index_bool (A : Option Addr) (n c lo hi : Nat) (xs : List Bool) (w : World) (h : Sl blv false w lo hi A n xs) (hn : n ≤ 1000000) :
    Calls Try.prog 49 #[.slice A n c, .bool false] w fun e w' => e = .returned (.int .i64 (idxF xs)) ∧ w = w' := by
  have HX := hid h
  clear h
  go_enter Try.func49, Try.ntmps49
  go_wp2_with fail
  go_loopw [8] (fun i wr => ∃ k : Nat, k ≤ n ∧ i = .int .i64 k ∧ (∀ j, j < k → xs[j]?.getD false = true) ∧ wr = w) (fun i _ => n - (intOf i).toNat)
  case atStart => exact ⟨0, Nat.zero_le _, rfl, fun j hj => absurd hj (Nat.not_lt_zero _), rfl⟩
  case round =>
    obtain ⟨k, hk, rfl, hall, rfl⟩ := hrel
    have HA := hid hall; have HL := hid HX.out.len
    clear hall
    by_cases hlt : k < n
    · obtain ⟨b, off, rfl, _, _, hc⟩ := HX.out.row (by omega)
      have g := hc k hlt
      obtain ⟨x, hX⟩ : ∃ x, x = xs[k]?.getD false := ⟨_, rfl⟩
      rw [← hX] at g
      have HK := hid hX
      clear hc hX
      cases x
      · have HD := hid (show idxF xs = k by unfold idxF; rw [takeWhile_lt (by rw [HL.out]; exact hlt) HA.out HK.out.symm, HL.out, if_pos hlt])
        go_wp2
        go_ret
        exact ⟨ret_int HD.out.symm, rfl⟩
      · go_wp2
        go_roundw
        case rel => exact ⟨k + 1, by omega, by go_num, below_succ HA.out HK.out.symm, trivial⟩
        case measure => simp [intOf]; omega
    · obtain rfl : k = n := by omega
      have HD := hid (show idxF xs = -1 by unfold idxF; rw [takeWhile_all (by rw [HL.out]; exact HA.out), if_neg (by omega)])
      go_wp2
      go_ret
      exact ⟨ret_int HD.out.symm, rfl⟩

theorem spans_any (B : Option Addr) (m d : Nat) (w : World) :
    Calls Try.prog 41 #[.slice B m d] w fun e w' => e = .returned (.func (.func 48) #[] #[.pointer (some ⟨w.heap.size, 0, none⟩)]) ∧ w.alloc (.cells #[.slice B m d] 23) = w' := by
  go_enter Try.func41, Try.ntmps41
  go_wp2
  go_ret
  exact ⟨rfl, rfl⟩
/-- what the body of a loop over the spans must keep: all below n₀, and the iterator's box -/
def KeepsBox (n₀ Bs : Nat) (A B : World) : Prop := Below n₀ A B ∧ B.heap[Bs]? = A.heap[Bs]?
theorem KeepsBox.refl (n₀ Bs : Nat) (A : World) : KeepsBox n₀ Bs A A := ⟨Below.refl _ _, rfl⟩
theorem KeepsBox.trans {n₀ Bs : Nat} {A B C : World} (h : KeepsBox n₀ Bs A B) (k : KeepsBox n₀ Bs B C) : KeepsBox n₀ Bs A C := ⟨h.1.trans k.1, k.2.trans h.2⟩
theorem KeepsBox.blk {n₀ Bs : Nat} {A B : World} {t : TypeId} {cs : Array Value} (h : KeepsBox n₀ Bs A B) (hb : Blk A Bs t cs) : Blk B Bs t cs := h.2.trans hb
theorem keepsBox_put {n₀ Bs : Nat} {w : World} (hn : n₀ ≤ w.heap.size) (hb : Bs < w.heap.size) (W : World) (l : Nat) (o o' : Obj) (hl : w.heap.size ≤ l) (h : W.heap[l]? = some o) (h1 : o.isCells = false) (h2 : o.isWalk = false) : KeepsBox n₀ Bs W (W.putObj l o') :=
  ⟨belowK_b hn W l o o' hl h h1 h2, (grownBy_putObj' W l o').block Bs (by have := (Array.getElem?_eq_some_iff.1 h).1; omega) (by simp; omega)⟩

/-- the spans from i on -/
def spansAt (ls : List Bool) : Nat → Nat → List (Int × Int)
  | 0, _ => []
  | f + 1, i => if i < ls.length then (if ls[i]?.getD false = true then ((i : Int), (runLen ls i : Int)) :: spansAt ls f (i + runLen ls i) else spansAt ls f (i + 1)) else []
def spansL (ls : List Bool) : List (Int × Int) := spansAt ls (ls.length + 1) 0
theorem runLen_pos {ls : List Bool} {i : Nat} (h : i < ls.length) (hi : ls[i]?.getD false = true) : 1 ≤ runLen ls i := by
  unfold runLen
  rw [List.drop_eq_getElem_cons h]
  rw [List.getElem?_eq_getElem h] at hi
  simp at hi
  rw [List.takeWhile_cons_of_pos (by simpa using hi)]
  simp
theorem runLen_le (ls : List Bool) (i : Nat) : runLen ls i ≤ ls.length - i := by
  unfold runLen
  have := List.IsPrefix.length_le (List.takeWhile_prefix id (l := ls.drop i))
  rwa [List.length_drop] at this

set_option maxRecDepth 100000 in
set_option maxHeartbeats 2000000 in
theorem spans1_in (M l Bs n₀ : Nat) (B : Option Addr) (m d lo : Nat) (ls : List Bool) (hm : 1 ≤ M) (hn : m ≤ 1000000) (hmd : m ≤ d) (J : List (Int × Int) → World → Prop) (Jx : List (Int × Int) → World → Prop)
    (hY : ∀ pre x W, J pre W → pre.length < m → YieldAt Fence.wide (M - 1) Try.prog l #[.agg #[.int .i64 x.1, .int .i64 x.2]] W fun e W' =>
      (e = .returned (.bool true) ∧ J (pre ++ [x]) W' ∧ KeepsBox n₀ Bs W W') ∨ (e = .returned (.bool false) ∧ Jx (pre ++ [x]) W'))
    (W : World) (hb : Blk W Bs 23 #[.slice B m d]) (hx : Sl blv false W lo n₀ B m ls) (h0 : J [] W) :
    CallsIn Fence.wide M Try.prog 48 #[.func (.yield l) #[] #[], .pointer (some ⟨Bs, 0, none⟩)] W fun e W' => (∃ v, e = .returned v) ∧
      (J (spansL ls) W' ∨ ∃ p, Jx p W') := by
  refine callsIn_of_wp Try.func48 rfl trivial ?_ rfl
  simp only [Try.ntmps48, List.size_toArray, List.length_cons, List.length_nil, Nat.reduceAdd, Nat.reduceSub, Array.replicate_succ, Array.replicate_zero, List.push_toArray, List.append_toArray, List.nil_append, List.cons_append]
  obtain ⟨k0, kf⟩ := hb.cells1
  have HX := hid hx; clear hx
  refine wpIn_wide.2 ?_
  go_wp2_with fail
  go_step3
  go_wp2_with fail
  go_step3
  go_wp2_with fail
  go_loopw [3] (fun i wr => ∃ k f : Nat, ∃ pre, k ≤ m ∧ i = .int .i64 k ∧ m < k + f ∧ pre.length ≤ k ∧ spansL ls = pre ++ spansAt ls f k ∧ J pre wr ∧ KeepsBox n₀ Bs W wr) (fun i _ => m - (intOf i).toNat)
  case atStart => exact ⟨0, ls.length + 1, [], Nat.zero_le _, rfl, by have := HX.out.len; omega, Nat.le_refl _, rfl, h0, KeepsBox.refl _ _ _⟩
  case round =>
    obtain ⟨k, f, pre, hk, rfl, hf, hpl, hsp, hJs, hnx⟩ := hrel
    obtain ⟨m0, mf⟩ := (hnx.blk hb).cells1
    have HSP := hid hsp
    clear hsp
    by_cases hlt : k < m
    · obtain ⟨b, off, rfl, _, hbB, hc⟩ := HX.out.row (by omega)
      have g : wr.cell? ⟨b, off + k, none⟩ = some (.bool (ls[k]?.getD false)) := (hnx.1.cell (p := ⟨b, off + k, none⟩) hbB).trans (hc _ hlt)
      have hsub : Sl blv false wr 0 n₀ (some ⟨b, off + k, none⟩) (m - k) (ls.drop k) := ⟨by rw [List.length_drop, HX.out.len], fun _ => ⟨b, off + k, rfl, Nat.zero_le _, hbB, fun j hj => by
        rw [Nat.add_assoc, List.getElem?_drop]; exact (hnx.1.cell (p := ⟨b, off + (k + j), none⟩) hbB).trans (hc (k + j) (by omega))⟩⟩
      obtain ⟨f, rfl⟩ : ∃ f', f = f' + 1 := ⟨f - 1, by omega⟩
      have hsucc := hid (show spansAt ls (f + 1) k = if ls[k]?.getD false = true then ((k : Int), (runLen ls k : Int)) :: spansAt ls f (k + runLen ls k) else spansAt ls f (k + 1) by rw [spansAt, if_pos (by rw [HX.out.len]; exact hlt)])
      have HSUB := hid hsub
      clear hc hsub
      obtain ⟨x, hX⟩ : ∃ x, x = ls[k]?.getD false := ⟨_, rfl⟩
      rw [← hX] at g
      have HK := hid hX
      rw [← hX] at hsucc
      clear hX
      cases x
      · have hs := hid (show spansL ls = pre ++ spansAt ls f (k + 1) by rw [HSP.out, hsucc.out]; rfl)
        go_wp2
        go_roundw
        case rel => exact ⟨k + 1, f, pre, by omega, by go_num, by omega, by omega, hs.out, hJs, hnx⟩
        case measure => simp [intOf]; omega
      · have hpos := runLen_pos (ls := ls) (i := k) (by rw [HX.out.len]; exact hlt) HK.out.symm
        have hle := runLen_le ls k
        rw [HX.out.len] at hle
        have hs := hid (show spansL ls = (pre ++ [((k : Int), (runLen ls k : Int))]) ++ spansAt ls f (k + runLen ls k) by rw [HSP.out, hsucc.out, List.append_assoc]; rfl)
        have hii : idxF (ls.drop k) = if runLen ls k < m - k then (runLen ls k : Int) else -1 := by
          unfold idxF; rw [List.length_drop, HX.out.len]; rfl
        have HII := hid hii
        have hkd : (k : Int) ≤ (m : Int) := by omega
        clear hii hsucc
        go_wp2_with fail
        refine (index_bool _ (m - k) (d - k) 0 n₀ (ls.drop k) wr HSUB.out (by omega)).mono ?_
        rintro e w2 ⟨rfl, rfl⟩
        rw [HII.out]
        obtain ⟨q, hq⟩ : ∃ q, q = runLen ls k := ⟨_, rfl⟩
        rw [← hq] at hpos hle hs ⊢
        clear HSUB HSP HII hq
        by_cases hr : q < m - k
        · rw [if_pos hr]
          have hr0 : ¬ (q : Int) < 0 := by omega
          obtain ⟨fn, tmps, assign, body, hy, hR⟩ := hY pre ((k : Int), (q : Int)) wr hJs (by omega)
          go_upto_region 7 with fail
          refine (wpIn_wide (n := M)).1 ?_
          gi_wp2
          refine hR.mono ?_
          rintro e W3 (⟨rfl, hJ3, hk3⟩ | ⟨rfl, hJx3⟩)
          · gi_wp2
            go_wp2_with fail
            go_roundw
            case rel => exact ⟨k + q, f, pre ++ [((k : Int), (q : Int))], by omega, by go_num, by omega, by simp; omega, hs.out, hJ3, hnx.trans hk3⟩
            case measure => simp [intOf]; omega
          · gi_wp2
            go_wp2_with fail
            simp only [Exit.noGoto]
            go_end0
            exact ⟨⟨_, rfl⟩, .inr ⟨_, hJx3⟩⟩
        · rw [if_neg hr]
          have hr0 : (m : Int) - (k : Int) = (q : Int) := by omega
          obtain ⟨fn, tmps, assign, body, hy, hR⟩ := hY pre ((k : Int), (q : Int)) wr hJs (by omega)
          go_upto_region 7 with fail
          refine (wpIn_wide (n := M)).1 ?_
          gi_wp2
          refine hR.mono ?_
          rintro e W3 (⟨rfl, hJ3, hk3⟩ | ⟨rfl, hJx3⟩)
          · gi_wp2
            go_wp2_with fail
            go_roundw
            case rel => exact ⟨k + q, f, pre ++ [((k : Int), (q : Int))], by omega, by go_num, by omega, by simp; omega, hs.out, hJ3, hnx.trans hk3⟩
            case measure => simp [intOf]; omega
          · gi_wp2
            go_wp2_with fail
            simp only [Exit.noGoto]
            go_end0
            exact ⟨⟨_, rfl⟩, .inr ⟨_, hJx3⟩⟩
    · obtain rfl : k = m := by omega
      have hs := hid (show spansL ls = pre by rw [HSP.out]; cases f <;> simp [spansAt, HX.out.len])
      go_wp2
      simp only [Exit.noGoto]
      go_end0
      exact ⟨⟨_, rfl⟩, .inl (by rw [hs.out]; exact hJs)⟩
theorem spans_stops (M Bs n₀ : Nat) (B : Option Addr) (m d lo : Nat) (ls : List Bool) (hm : 1 ≤ M) (hn : m ≤ 1000000) (hmd : m ≤ d) (w : World) (hBs : Bs < w.heap.size) (hn₀ : n₀ ≤ w.heap.size)
    (hb : Blk w Bs 23 #[.slice B m d]) (hx : Sl blv false w lo n₀ B m ls) :
    SeqStopsK Fence.wide M Try.prog 48 #[.pointer (some ⟨Bs, 0, none⟩)] (fun x : Int × Int => #[.agg #[Value.int .i64 x.1, Value.int .i64 x.2]]) (KeepsBox n₀ Bs) (fun ys => ys = spansL ls) (fun _ => True) m w :=
  fun l J Jx W hW _ _ hY h0 => by
    refine (spans1_in M l Bs n₀ B m d lo ls hm hn hmd J Jx hY W (hb.below hW hBs) (hx.below hW hn₀) h0).mono ?_
    rintro e W' ⟨he, hj | ⟨p, hj⟩⟩
    · exact ⟨he, .inl ⟨_, rfl, hj⟩⟩
    · exact ⟨he, .inr ⟨_, trivial, hj⟩⟩
end Go.Proofs.Ytenhojdhjfoomaa
