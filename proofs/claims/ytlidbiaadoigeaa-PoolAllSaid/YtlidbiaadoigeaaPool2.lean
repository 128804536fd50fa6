/- package pool: Check, Word, Page, Same. No condition but sizes. -/
import Derived.Test.YtlidbiaadoigeaaPool
namespace Go.Proofs.Ytlidbiaadoigeaa
open Go.RowKit

def chk (base pages : Int) (xs : List Int) : Int := if freeB base pages xs = true then 0 else 170
abbrev pv (base pages : Int) (A : Option Addr) (n c : Nat) : Value := .agg #[.int .i64 base, .int .i64 pages, .slice A n c]

set_option maxHeartbeats 1000000 in
theorem check_any (base pages : Int) (A : Option Addr) (n c lo : Nat) (xs : List Int) (w : World) (h : Sl i64 0 w lo w.heap.size A n xs) (hn : n ≤ 1000000) :
    Calls Try.prog 17 #[pv base pages A n c] w fun e w' => e = .returned (.int .i64 (chk base pages xs)) ∧ Below w.heap.size w w' := by
  have h1 := h.alloc (Nat.le_refl _) (.cells #[.int .i64 base, .int .i64 pages, .slice A n c] 24)
  have h2 := (h1.mono (hi' := (w.alloc (.cells #[.int .i64 base, .int .i64 pages, .slice A n c] 24)).heap.size) (Nat.le_refl _) (by simp))
  have hf := free_any base pages A n c lo xs _ h2 hn
  have HF := hid hf
  clear h1 h2 hf
  go_enter Try.func17, Try.ntmps17
  go_wp2_with fail
  refine HF.out.mono ?_
  rintro e w' ⟨fl, rfl, hs, h1, _, hb⟩
  have HS := hid hs; have H1 := hid h1; clear hs h1
  have hB : Below w.heap.size w w' := ((Below.refl _ w).alloc (Nat.le_refl _) _).trans (hb.mono (by simp))
  clear hb
  obtain ⟨ok, hok⟩ : ∃ ok, ok = freeB base pages xs := ⟨_, rfl⟩
  rw [← hok]
  have HO := hid hok; clear hok
  cases ok
  all_goals
    go_wp2_with (first | (with_reducible refine wpList_alloc_as rfl 57 rfl F0 zF0 ?_) | (with_reducible refine wpList_store_blk rfl 57 _ _ rfl _ fl rfl rfl 57 F0 64 ?_ sF0 HS.out hi57 H1.out ?_; focus (first | (refine Blk.at ?_; simp; done) | (refine Blk.alloc (Blk.at ?_) _; simp; done))))
    go_ret
    refine ⟨ret_int (by simp [chk, ← HO.out]), below_setRow (hB.alloc hB.size _) (by have := hB.size; omega) _⟩

section
variable (base pages : Int) (A : Option Addr) (n c lo : Nat) (xs : List Int)
theorem check_yes (w : World) (h : Sl i64 0 w lo w.heap.size A n xs) (hn : n ≤ 1000000) (hf : freeB base pages xs = true) :
    Calls Try.prog 17 #[pv base pages A n c] w fun e w' => e = .returned (.int .i64 0) ∧ Below w.heap.size w w' :=
  (check_any base pages A n c lo xs w h hn).mono fun _ _ ⟨he, hb⟩ => ⟨by rw [he, chk, if_pos hf], hb⟩
theorem check_no (w : World) (h : Sl i64 0 w lo w.heap.size A n xs) (hn : n ≤ 1000000) (hf : freeB base pages xs = false) :
    Calls Try.prog 17 #[pv base pages A n c] w fun e w' => e = .returned (.int .i64 170) ∧ Below w.heap.size w w' :=
  (check_any base pages A n c lo xs w h hn).mono fun _ _ ⟨he, hb⟩ => ⟨by rw [he, chk, if_neg (by simp [hf])], hb⟩

/-- a row is read behind a box -/
theorem Sl.boxed {α : Type} {enc : α → Value} {d : α} {w : World} {lo : Nat} {A : Option Addr} {n : Nat} {xs : List α} (h : Sl enc d w lo w.heap.size A n xs) (o : Obj) :
    Sl enc d (w.alloc o) lo (w.alloc o).heap.size A n xs := (h.alloc (Nat.le_refl _) o).mono (Nat.le_refl _) (by simp)

def wordF (base pages : Int) (xs : List Int) (page : Int) : Int × Int :=
  if freeB base pages xs = true then (if 0 ≤ page ∧ page < pages then (base + page * 16, 0) else (0, 2)) else (0, 170)

theorem freeB_sized {base pages : Int} {xs : List Int} (h : freeB base pages xs = true) : sizedB base pages = true := by
  simp only [freeB, Bool.and_eq_true] at h; exact h.1
theorem bcell_box {w w1 : World} {o : Obj} (hb : Below (w.alloc o).heap.size (w.alloc o) w1) : Below w.heap.size w w1 :=
  ((Below.refl _ w).alloc (Nat.le_refl _) _).trans (hb.mono (by simp))

set_option maxHeartbeats 1000000 in
theorem word_any (page : Int) (w : World) (h : Sl i64 0 w lo w.heap.size A n xs) (hn : n ≤ 1000000) :
    Calls Try.prog 14 #[pv base pages A n c, .int .i64 page] w fun e w' => e = .returned (.tuple #[.int .i64 (wordF base pages xs page).1, .int .i64 (wordF base pages xs page).2]) ∧ Below w.heap.size w w' := by
  have h2 := hid (h.boxed (.cells #[.int .i64 base, .int .i64 pages, .slice A n c] 24))
  by_cases hf : freeB base pages xs = true
  · have hs := sizedB_iff.1 (freeB_sized hf)
    have c1 := hid (check_yes base pages A n c lo xs _ h2.out hn hf)
    have HF := hid hf; clear hf h2
    by_cases g1 : page < 0
    · have e : wordF base pages xs page = (0, 2) := by rw [wordF, if_pos HF.out, if_neg (by omega)]
      have HE := hid e; clear e
      go_enter Try.func14, Try.ntmps14
      go_wp2_with (go_at_call 17; (with_reducible refine c1.out.mono ?_); rintro e w1 ⟨rfl, hb⟩; obtain ⟨hc, hfz⟩ := bcell hb)
      go_ret2
      exact ⟨by rw [HE.out]; rfl, bcell_box hb⟩
    · by_cases g2 : pages ≤ page
      · have e : wordF base pages xs page = (0, 2) := by rw [wordF, if_pos HF.out, if_neg (by omega)]
        have HE := hid e; clear e
        go_enter Try.func14, Try.ntmps14
        go_wp2_with (go_at_call 17; (with_reducible refine c1.out.mono ?_); rintro e w1 ⟨rfl, hb⟩; obtain ⟨hc, hfz⟩ := bcell hb)
        go_ret2
        exact ⟨by rw [HE.out]; rfl, bcell_box hb⟩
      · have e : wordF base pages xs page = (base + page * 16, 0) := by rw [wordF, if_pos HF.out, if_pos (by omega)]
        have HE := hid e; clear e
        go_enter Try.func14, Try.ntmps14
        go_wp2_with (go_at_call 17; (with_reducible refine c1.out.mono ?_); rintro e w1 ⟨rfl, hb⟩; obtain ⟨hc, hfz⟩ := bcell hb)
        go_ret2
        exact ⟨by rw [HE.out]; rfl, bcell_box hb⟩
  · have e : wordF base pages xs page = (0, 170) := by rw [wordF, if_neg hf]
    have HE := hid e; clear e
    have c1 := hid (check_no base pages A n c lo xs _ h2.out hn (by simpa using hf))
    clear hf h2
    go_enter Try.func14, Try.ntmps14
    go_wp2_with (go_at_call 17; (with_reducible refine c1.out.mono ?_); rintro e w1 ⟨rfl, hb⟩; obtain ⟨hc, hfz⟩ := bcell hb)
    go_ret2
    exact ⟨by rw [HE.out]; rfl, bcell_box hb⟩

def pageF (base pages : Int) (xs : List Int) (word : Int) : Int × Int × Int :=
  if freeB base pages xs = true then (if base ≤ word ∧ word < base + pages * 16 then ((word - base) / 16, (word - base) % 16, 0) else (0, 0, 2)) else (0, 0, 170)

end
end Go.Proofs.Ytlidbiaadoigeaa
