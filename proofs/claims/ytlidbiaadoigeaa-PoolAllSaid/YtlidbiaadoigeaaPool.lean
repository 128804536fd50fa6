/- package pool: sized, free, Check, Word, Page. No condition but sizes. -/
import Derived.Test.YtlidbiaadoigeaaSli
namespace Go.Proofs.Ytlidbiaadoigeaa
open Go.RowKit
def sizedB (a b : Int) : Bool := decide (0 ≤ a ∧ a % 16 = 0 ∧ a ≤ 4096 ∧ 0 ≤ b ∧ b ≤ 64 ∧ a + b * 16 ≤ 4096)
theorem sizedB_iff {a b : Int} : sizedB a b = true ↔ (0 ≤ a ∧ a % 16 = 0 ∧ a ≤ 4096 ∧ 0 ≤ b ∧ b ≤ 64 ∧ a + b * 16 ≤ 4096) := by simp [sizedB]
set_option maxHeartbeats 400000 in
theorem sized_any (a b : Int) (w : World) :
    Calls Try.prog 36 #[.int .i64 a, .int .i64 b] w fun e w' => e = .returned (.bool (sizedB a b)) ∧ w = w' := by
  go_enter Try.func36, Try.ntmps36
  go_wp2
  all_goals go_ret
  all_goals exact ⟨ret_bool (by rw [Bool.eq_iff_iff, sizedB_iff]; simp; omega), rfl⟩

def F0 : Array Value := (List.replicate 64 (.bool false)).toArray
theorem zF0 : ∀ w, (zeroValue 57).run Try.prog w = .ok (.agg F0) w := by intro w; kernel_rfl
theorem hi57 : (Try.prog.info? 57).map (·.size) = some 64 := by kernel_rfl
theorem sF0 : F0.size = 64 := by kernel_rfl
theorem hone57 : F0.all (·.oneCell') = true := by kernel_rfl

/-- what `free` says of the list alone -/
def Good (pages : Int) (xs : List Int) : Prop := (∀ x ∈ xs, 0 ≤ x ∧ x < pages) ∧ xs.Nodup
instance (pages : Int) (xs : List Int) : Decidable (Good pages xs) := by unfold Good; infer_instance
def freeB (base pages : Int) (xs : List Int) : Bool := sizedB base pages && decide (Good pages xs)
def Flags (xs : List Int) (fl : Array Value) : Prop := fl.size = 64 ∧ fl.all (·.oneCell') = true ∧ ∀ i : Nat, i < 64 → fl[i]? = some (.bool (decide ((i : Int) ∈ xs)))
theorem flags0 : Flags [] F0 := ⟨sF0, hone57, fun i hi => by unfold F0; rw [List.getElem?_toArray, List.getElem?_replicate, if_pos hi]; simp⟩
def FreePost (w : World) (base pages : Int) (xs : List Int) (e : Ending) (w' : World) : Prop :=
  ∃ fl, e = .returned (.tuple #[.agg fl, .bool (freeB base pages xs)]) ∧ fl.size = 64 ∧ fl.all (·.oneCell') = true ∧ (freeB base pages xs = true → Flags xs fl) ∧ Below w.heap.size w w'

theorem take_snoc {xs : List Int} {k : Nat} {x : Int} (hk : k < xs.length) (hx : x = xs[k]?.getD 0) : xs.take (k + 1) = xs.take k ++ [x] := by
  rw [List.take_succ_eq_append_getElem hk, hx, List.getElem?_eq_getElem hk]; rfl
theorem good_snoc {pages : Int} {xs : List Int} {k : Nat} {x : Int} (hk : k < xs.length) (hx : x = xs[k]?.getD 0) (hg : Good pages (xs.take k)) (h0 : 0 ≤ x) (h1 : x < pages) (h2 : x ∉ xs.take k) : Good pages (xs.take (k + 1)) := by
  rw [take_snoc hk hx]
  obtain ⟨g1, g2⟩ := hg
  refine ⟨fun y hy => ?_, ?_⟩
  · rw [List.mem_append, List.mem_singleton] at hy
    rcases hy with hy | rfl
    · exact g1 y hy
    · exact ⟨h0, h1⟩
  · rw [List.nodup_append]
    refine ⟨g2, by simp, fun a ha b hb => ?_⟩
    rw [List.mem_singleton] at hb
    subst hb
    rintro rfl
    exact h2 ha
theorem flags_set {xs : List Int} {k : Nat} {x : Int} {fl : Array Value} (hk : k < xs.length) (hx : x = xs[k]?.getD 0) (hf : Flags (xs.take k) fl) (h0 : 0 ≤ x) (h1 : x < 64) : Flags (xs.take (k + 1)) (fl.setIfInBounds x.toNat (.bool true)) := by
  rw [take_snoc hk hx]
  obtain ⟨f1, f2, f3⟩ := hf
  refine ⟨by simp [f1], ?_, fun i hi => ?_⟩
  · rw [Array.all_eq_true_iff_forall_mem] at f2 ⊢
    intro v hv
    rcases Array.mem_or_eq_of_mem_setIfInBounds hv with h | h
    · exact f2 v h
    · subst h; rfl
  · rw [Array.getElem?_setIfInBounds]
    by_cases e : x.toNat = i
    · subst e
      rw [if_pos rfl, if_pos (by omega)]
      have : ((x.toNat : Nat) : Int) = x := by omega
      simp [this]
    · rw [if_neg e, f3 i hi]
      have : (i : Int) ≠ x := by omega
      simp [this]
theorem free_no {base pages : Int} {xs : List Int} {k : Nat} {x : Int} (hk : k < xs.length) (hx : x = xs[k]?.getD 0) (hbad : ¬ (0 ≤ x ∧ x < pages ∧ x ∉ xs.take k)) : freeB base pages xs = false := by
  simp only [freeB, Bool.and_eq_false_iff, decide_eq_false_iff_not]
  right
  rintro ⟨h1, h2⟩
  have hx' : x = xs[k] := by rw [hx, List.getElem?_eq_getElem hk]; rfl
  apply hbad
  have := h1 x (by rw [hx']; exact List.getElem_mem hk)
  refine ⟨this.1, this.2, fun hm => ?_⟩
  have e := List.take_append_drop k xs
  rw [← e, List.nodup_append] at h2
  exact h2.2.2 x hm x (by rw [List.drop_eq_getElem_cons hk, ← hx']; simp) rfl

set_option maxHeartbeats 1000000 in
theorem free_any (base pages : Int) (A : Option Addr) (n c lo : Nat) (xs : List Int) (w : World) (h : Sl i64 0 w lo w.heap.size A n xs) (hn : n ≤ 1000000) :
    Calls Try.prog 29 #[.agg #[.int .i64 base, .int .i64 pages, .slice A n c]] w (FreePost w base pages xs) := by
  by_cases hs : sizedB base pages = true
  · go_enter Try.func29, Try.ntmps29
    go_wp2_with (first
      | (with_reducible refine wpList_alloc_as rfl 57 rfl F0 zF0 ?_)
      | (with_reducible refine wpList_load_blk rfl 57 _ rfl _ rfl 57 F0 64 _ ?_ sF0 Try.underlying57 rfl hi57 ?_; focus (first | (refine Blk.at ?_; simp; done) | (refine Blk.alloc (Blk.at ?_) _; simp; done)))
      | (with_reducible refine wpList_store_blk rfl 57 _ _ rfl _ F0 rfl rfl 57 F0 64 ?_ sF0 sF0 hi57 hone57 ?_; focus (first | (refine Blk.at ?_; simp; done) | (refine Blk.alloc (Blk.at ?_) _; simp; done)))
      | (go_at_call 36; refine (sized_any _ _ _).mono ?_; rintro e w' ⟨rfl, rfl⟩))
    go_loopw [17] (fun i wr => ∃ k : Nat, ∃ fl : Array Value, k ≤ n ∧ i = .int .i64 k ∧ Blk wr w.heap.size 24 #[.int .i64 base, .int .i64 pages, .slice A n c] ∧ Blk wr (w.heap.size + 1) 57 F0 ∧ Blk wr (w.heap.size + 1 + 1) 57 fl ∧
        Good pages (xs.take k) ∧ Flags (xs.take k) fl ∧ Below w.heap.size w wr) (fun i _ => n - (intOf i).toNat)
    case atStart =>
      exact ⟨0, F0, Nat.zero_le _, rfl, ((Blk.new _ _ _).alloc _).alloc _, by (refine Blk.alloc (Blk.at ?_) _; simp), by (refine Blk.at ?_; simp), by simp [Good], flags0, by repeat (first | exact Below.refl _ _ | refine Below.alloc ?_ (by simp; try omega) _)⟩
    case round =>
      obtain ⟨k, fl, hk, rfl, hb0, hb1, hb2, hg, hf, hB⟩ := hrel
      have hl := h.len; have hcell := h.row; clear h
      obtain ⟨hf1, hf2, hf3⟩ := hf
      have hL := hid hl; clear hl
      have hF1 := hid hf1; clear hf1
      have hF2 := hid hf2; clear hf2
      have hF3 := hid hf3; clear hf3
      have hG := hid hg; clear hg
      have c0 : wr.cell? ⟨w.heap.size, 1, none⟩ = some (.int .i64 pages) := hb0.cell 1
      by_cases hlt : k < n
      · obtain ⟨b, off, rfl, _, hbB, hcells⟩ := hcell (by omega)
        obtain ⟨x, hx⟩ : ∃ x, x = xs[k]?.getD 0 := ⟨_, rfl⟩
        have cx : wr.cell? ⟨b, off + k, none⟩ = some (.int .i64 x) := by rw [hB.cell hbB, hcells k hlt, hx]
        have hX := hid hx; clear hx hcells hcell
        by_cases h1 : x < 0
        · go_wp2_with (first
          | (with_reducible refine wpList_load_blk rfl 57 _ rfl _ rfl 57 _ 64 _ hb2 hF1.out Try.underlying57 rfl hi57 ?_)
          | (with_reducible refine wpList_store_blk rfl 57 _ _ rfl _ _ rfl rfl 57 _ 64 hb1 sF0 hF1.out hi57 hF2.out ?_))
          refine bodyPost_ret (results_blk_tmp rfl _ _ _ _ _ _ _ rfl hb1.setRow hF1.out Try.underlying57 rfl hi57) rfl ?_
          have hno : freeB base pages xs = false := free_no (k := k) (by rw [hL.out]; exact hlt) hX.out (fun h => by omega)
          exact ⟨fl, by rw [hno]; rfl, hF1.out, hF2.out, by rw [hno]; simp, below_setRow hB (by omega) _⟩
        · by_cases h2 : pages ≤ x
          · go_wp2_with (first
            | (with_reducible refine wpList_load_blk rfl 57 _ rfl _ rfl 57 _ 64 _ hb2 hF1.out Try.underlying57 rfl hi57 ?_)
            | (with_reducible refine wpList_store_blk rfl 57 _ _ rfl _ _ rfl rfl 57 _ 64 hb1 sF0 hF1.out hi57 hF2.out ?_))
            refine bodyPost_ret (results_blk_tmp rfl _ _ _ _ _ _ _ rfl hb1.setRow hF1.out Try.underlying57 rfl hi57) rfl ?_
            have hno : freeB base pages xs = false := free_no (k := k) (by rw [hL.out]; exact hlt) hX.out (fun h => by omega)
            exact ⟨fl, by rw [hno]; rfl, hF1.out, hF2.out, by rw [hno]; simp, below_setRow hB (by omega) _⟩
          · have hp64 : pages ≤ 64 := (sizedB_iff.1 hs).2.2.2.2.1
            have cf : wr.cell? ⟨w.heap.size + 1 + 1, x.toNat, none⟩ = some (.bool (decide (x ∈ xs.take k))) := by
              rw [hb2.cell, hF3.out _ (by omega)]; congr; omega
            by_cases h3 : x ∈ xs.take k
            · have h3' : decide (x ∈ xs.take k) = true := by simpa using h3
              rw [h3'] at cf
              have ff := hb2.frozen x.toNat
              go_wp2_with (first
              | (with_reducible refine wpList_load_blk rfl 57 _ rfl _ rfl 57 _ 64 _ hb2 hF1.out Try.underlying57 rfl hi57 ?_)
              | (with_reducible refine wpList_store_blk rfl 57 _ _ rfl _ _ rfl rfl 57 _ 64 hb1 sF0 hF1.out hi57 hF2.out ?_))
              refine bodyPost_ret (results_blk_tmp rfl _ _ _ _ _ _ _ rfl hb1.setRow hF1.out Try.underlying57 rfl hi57) rfl ?_
              have hno : freeB base pages xs = false := free_no (k := k) (by rw [hL.out]; exact hlt) hX.out (fun h => h.2.2 h3)
              exact ⟨fl, by rw [hno]; rfl, hF1.out, hF2.out, by rw [hno]; simp, below_setRow hB (by omega) _⟩
            · have h3' : decide (x ∈ xs.take k) = false := by simpa using h3
              rw [h3'] at cf
              have ff := hb2.frozen x.toNat
              go_wp2_with (first
              | (with_reducible refine wpList_load_blk rfl 57 _ rfl _ rfl 57 _ 64 _ hb2 hF1.out Try.underlying57 rfl hi57 ?_)
              | (with_reducible refine wpList_store_blk rfl 57 _ _ rfl _ _ rfl rfl 57 _ 64 hb1 sF0 hF1.out hi57 hF2.out ?_))
              go_roundw
              case rel =>
                have hx : x = xs[k]?.getD 0 := hX.out
                have hl : xs.length = n := hL.out
                exact ⟨k + 1, _, by omega, by go_num, hb0.far (by simp; omega) _, hb1.far (by simp) _, hb2.setCell _ _,
                  good_snoc (by omega) hx hG.out (by omega) (by omega) h3, flags_set (by omega) hx ⟨hF1.out, hF2.out, hF3.out⟩ (by omega) (by omega), hB.setCell (by simp; omega) _⟩
              case measure => simp [intOf]; omega
      · obtain rfl : k = n := by omega
        have hyes : freeB base pages xs = true := by
          have := hG.out; rw [List.take_of_length_le (Nat.le_of_eq hL.out)] at this
          simp [freeB, hs, this]
        go_wp2_with (first
        | (with_reducible refine wpList_load_blk rfl 57 _ rfl _ rfl 57 _ 64 _ hb2 hF1.out Try.underlying57 rfl hi57 ?_)
        | (with_reducible refine wpList_store_blk rfl 57 _ _ rfl _ _ rfl rfl 57 _ 64 hb1 sF0 hF1.out hi57 hF2.out ?_))
        refine bodyPost_ret (results_blk_tmp rfl _ _ _ _ _ _ _ rfl hb1.setRow hF1.out Try.underlying57 rfl hi57) rfl ?_
        have hF : Flags (xs.take k) fl := ⟨hF1.out, hF2.out, hF3.out⟩
        rw [List.take_of_length_le (Nat.le_of_eq hL.out)] at hF
        exact ⟨fl, by rw [hyes]; rfl, hF1.out, hF2.out, fun _ => hF, below_setRow hB (by omega) _⟩
  · have hs' : sizedB base pages = false := by simpa using hs
    go_enter Try.func29, Try.ntmps29
    go_wp2_with (first
      | (with_reducible refine wpList_alloc_as rfl 57 rfl F0 zF0 ?_)
      | (with_reducible refine wpList_load_blk rfl 57 _ rfl _ rfl 57 F0 64 _ ?_ sF0 Try.underlying57 rfl hi57 ?_; focus (first | (refine Blk.at ?_; simp; done) | (refine Blk.alloc (Blk.at ?_) _; simp; done)))
      | (with_reducible refine wpList_store_blk rfl 57 _ _ rfl _ F0 rfl rfl 57 F0 64 ?_ sF0 sF0 hi57 hone57 ?_; focus (first | (refine Blk.at ?_; simp; done) | (refine Blk.alloc (Blk.at ?_) _; simp; done)))
      | (go_at_call 36; refine (sized_any _ _ _).mono ?_; rintro e w' ⟨rfl, rfl⟩))
    refine bodyPost_ret (results_blk_tmp rfl _ _ _ _ _ _ _ rfl ((Blk.at (by simp)).alloc _).setRow sF0 Try.underlying57 rfl hi57) rfl ?_
    have hno : freeB base pages xs = false := by simp [freeB, hs']
    exact ⟨F0, by rw [hno]; rfl, sF0, hone57, by rw [hno]; simp, below_setRow (by repeat (first | exact Below.refl _ _ | refine Below.alloc ?_ (by simp; try omega) _)) (by omega) _⟩
end Go.Proofs.Ytlidbiaadoigeaa
