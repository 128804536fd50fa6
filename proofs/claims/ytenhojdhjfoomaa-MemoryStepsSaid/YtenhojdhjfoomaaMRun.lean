/- package memory: Run, of every memory. afterglowlaw02.MemorySteps: what the rounds come to, plainly. No condition but sizes. -/
import Derived.Test.YtenhojdhjfoomaaMe10
import Derived.Test.YtenhojdhjfoomaaKitC
import Derived.Test.YtenhojdhjfoomaaLHolds
namespace Go.Proofs.Ytenhojdhjfoomaa
open Go.RowKit
theorem info_acc : (Try.prog.info? 44).map (fun i => (i.zero, i.size, i.bytes)) = some (some (.agg #[.int .i64 0, .int .i64 0, .int .u64 0, .int .u64 0]), 4, 32) := by kernel_rfl
theorem encA_one (y : Acc) (j : Nat) (_ : j < 4) : (encA y j).oneCell' = true := by
  unfold encA; split <;> rfl
set_option maxHeartbeats 400000 in
theorem clone_acc (A : Option Addr) (n c lo : Nat) (xs : List _) (w : World) (h : Sm 4 encA (0, 0, 0, 0) w lo w.heap.size A n xs) (hn : n ≤ 1000000) :
    Calls Try.prog 19 #[.slice A n c] w fun e w' => ∃ A' c', e = .returned (.slice A' n c') ∧ Om 4 encA w' w.heap.size 44 A' n c' xs ∧ Below w.heap.size w w' := by
  obtain ⟨i0, hi0, hz00, hz01, hz02⟩ := info_parts info_acc
  have hq := fun W a n c => run_eqnil (P := Try.prog) (t := 40) Try.underlying40 W a n c
  rcases A with _ | ad
  · obtain ⟨rfl, rfl⟩ := h.none_
    go_enter Try.func19, Try.ntmps19
    go_wp2
    go_ret
    exact ⟨none, 0, rfl, Om.nil _ _ _, Below.refl _ _⟩
  · go_enter Try.func19, Try.ntmps19
    go_wp2_with (at_builtin; refine wpList_appm 4 encA (0, 0, 0, 0) _ rfl _ _ 40 rfl w.heap.size 44 i0 _ 32 Try.underlying40 hi0 hz00 hz01 hz02 rfl (by omega) _ _ _ [] rfl (Om.empty w _ _ (Nat.le_refl _)) lo w.heap.size (some ad) n c xs rfl (h.alloc (Nat.le_refl _) _) encA_one (by simp only [maxLen]; omega) (by omega) (by simp) ?_; intro A1 c1 w1 hown1 hg1 hat1; simp only [Nat.zero_add, List.nil_append] at hown1)
    go_ret
    refine ⟨A1, c1, by simp, hown1, ?_⟩
    exact ((Below.refl _ w).alloc (Nat.le_refl _) _).grown hg1 (by simp) (fun k hk => by simp [Value.ownBlock] at hk; omega)

set_option maxHeartbeats 2000000 in
theorem mrun_bad (A : Option Addr) (n c : Nat) (B : Option Addr) (m d : Nat) (f : Bool) (ws : List Int) (ls : List Bool) (L : Option Addr) (nl kc : Nat) (al : List Acc) (w : World) (h : Mem w A n c B m d ws ls) (hg : ¬ MGood ws ls) :
    Calls Try.prog 23 #[mv A n c B m d f, .slice L nl kc] w (MRPost w (runMF (ws, ls, f) al)) := by
  have HR := hid h; have HB := hid (Below.refl w.heap.size w)
  have hc : mcheckC ws ls = 120 := if_neg hg
  have E := hid (show runMF (ws, ls, f) al = (120, ([], [], false), []) from if_neg hg)
  clear h hg
  have bx := below_box w (.cells (mcs A n c B m d f) 25)
  replace HR := hid (HR.out.step bx); replace HB := hid (below_then HB.out bx)
  clear bx
  have PR := hid (Blk.new w 25 (mcs A n c B m d f))
  have bx := below_box (w.alloc (.cells (mcs A n c B m d f) 25)) (.cells (mcs none 0 0 none 0 0 false) 25)
  replace HR := hid (HR.out.step bx); replace PR := hid (PR.out.step bx); replace HB := hid (below_then HB.out bx)
  clear bx
  have PZ := hid (Blk.new2 w 25 (mcs none 0 0 none 0 0 false) (.cells (mcs A n c B m d f) 25))
  obtain ⟨y00, y01, y02, yf0⟩ := PR.out.cells3
  go_enter Try.func23, Try.ntmps23
  go_wp2_with fail
  clear y00 y01 y02 yf0
  refine (mcheck_any A n c B m d f ws ls _ HR.out).mono ?_
  rintro e w1 ⟨rfl, hb⟩
  replace HR := hid (HR.out.step hb); replace PR := hid (PR.out.step hb); replace PZ := hid (PZ.out.step hb); replace HB := hid (below_then HB.out hb)
  clear hb
  rw [hc]
  obtain ⟨y00, y01, y02, yf0⟩ := PZ.out.cells3
  go_wp2
  obtain ⟨q0, q1, q2, qf⟩ := (((PZ.out.setCell 0 (.slice none 0 0)).setCell 1 (.slice none 0 0)).setCell 2 (.bool false)).cells3
  refine bodyPost_ret (v := .tuple #[mnil, .slice none 0 0, .int .i64 120]) (by simp [results, Try.results23, go_sem, q0, q1, q2]) rfl ?_
  rw [E.out]
  exact ⟨none, 0, 0, none, 0, 0, none, 0, 0, rfl, Mown.none _ _, Om.nil _ _ _, ((HB.out.setCell (by simp) _).setCell (by simp) _).setCell (by simp) _⟩
theorem mrun_any (A : Option Addr) (n c : Nat) (B : Option Addr) (m d : Nat) (f : Bool) (ws : List Int) (ls : List Bool) (L : Option Addr) (nl kc : Nat) (al : List Acc) (w : World) (h : Mem w A n c B m d ws ls) (hL : Sm 4 encA (0, 0, 0, 0) w 0 w.heap.size L nl al) (hnl : nl ≤ 1000) :
    Calls Try.prog 23 #[mv A n c B m d f, .slice L nl kc] w (MRPost w (runMF (ws, ls, f) al)) := by
  by_cases hg : MGood ws ls
  · exact mrun_good A n c B m d f ws ls L nl kc al w h hL hnl hg
  · exact mrun_bad A n c B m d f ws ls L nl kc al w h hg
/-! ### the rounds, plainly -/
def PInv (s0 : MSt) (al : List Acc) (k : Nat) (s : MSt) (code : Int) (sAt : MSt) (gs : List (Int × Bool)) : Prop :=
  s.1.length ≤ 64 ∧ s.2.1.length ≤ 64 ∧
  (MGood s0.1 s0.2.1 → MGood s.1 s.2.1 ∧ (code = 0 → sAt = s ∧ runG s0 [] al = runG s gs (al.drop k)) ∧ (code ≠ 0 → runG s0 [] al = (code, ([], [], false), []))) ∧
  (¬ MGood s0.1 s0.2.1 → s = s0 ∧ (k = 0 → code = 0) ∧ (0 < k → code = 120))
theorem PInv.zero {s0 : MSt} {al : List Acc} (h1 : s0.1.length ≤ 64) (h2 : s0.2.1.length ≤ 64) : PInv s0 al 0 s0 0 s0 [] :=
  ⟨h1, h2, fun h => ⟨h, fun _ => ⟨rfl, rfl⟩, fun h => absurd rfl h⟩, fun _ => ⟨rfl, fun _ => rfl, fun h => absurd h (Nat.lt_irrefl _)⟩⟩
theorem accF_len (s : MSt) (a : Acc) (h1 : s.1.length ≤ 64) (h2 : s.2.1.length ≤ 64) : (accF s a).2.1.1.length ≤ 64 ∧ (accF s a).2.1.2.1.length ≤ 64 := by
  unfold accF
  split
  · exact ⟨by simp, by simp⟩
  split
  · exact ⟨by simp, by simp⟩
  · obtain ⟨e1, e2, _⟩ := stepM_props s a
    exact ⟨by show (stepM s a).1.1.length ≤ 64; omega, by show (stepM s a).1.2.1.length ≤ 64; rw [e1]; exact h2⟩
theorem PInv.step {s0 : MSt} {al : List Acc} {k : Nat} {s : MSt} {code : Int} {sAt : MSt} {gs : List (Int × Bool)} (h : PInv s0 al k s code sAt gs) (hk : k < al.length) {a : Acc} (ha : a = al[k]?.getD (0, 0, 0, 0)) {r : Int × MSt × (Int × Bool)} (hr : r = accF s a) :
    PInv s0 al (k + 1) (if r.1 = 0 then r.2.1 else s) (if code = 0 then r.1 else code) (if code = 0 ∧ r.1 = 0 then r.2.1 else sAt) (if code = 0 ∧ r.1 = 0 then gs ++ [r.2.2] else gs) := by
  obtain ⟨h1, h2, h3, h4⟩ := h
  have hl := accF_len s a h1 h2
  rw [← hr] at hl
  have hdrop : al.drop k = a :: al.drop (k + 1) := by
    rw [List.drop_eq_getElem_cons (by omega), ha, List.getElem?_eq_getElem (by omega)]; rfl
  refine ⟨by split; exact hl.1; exact h1, by split; exact hl.2; exact h2, fun hg => ?_, fun hg => ?_⟩
  · obtain ⟨g1, g2, g3⟩ := h3 hg
    refine ⟨?_, fun hc => ?_, fun hc => ?_⟩
    · by_cases hz : r.1 = 0
      · rw [if_pos hz]
        rw [hr] at hz ⊢
        unfold accF at hz ⊢
        rw [if_neg (not_not_intro g1)] at hz ⊢
        split
        · rename_i hx; rw [if_pos hx] at hz; exact absurd hz (by decide)
        · exact (stepM_props s a).2.2.2.2 g1
      · rw [if_neg hz]; exact g1
    · by_cases h0 : code = 0
      · rw [if_pos h0] at hc
        rw [if_pos ⟨h0, hc⟩, if_pos hc, if_pos ⟨h0, hc⟩]
        refine ⟨rfl, ?_⟩
        rw [(g2 h0).2, hdrop]
        show (if (accF s a).1 = 0 then _ else _) = _
        rw [← hr, if_pos hc]
      · rw [if_neg h0] at hc; exact absurd hc h0
    · by_cases h0 : code = 0
      · rw [if_pos h0] at hc ⊢
        rw [(g2 h0).2, hdrop]
        show (if (accF s a).1 = 0 then _ else _) = _
        rw [← hr, if_neg hc]
      · rw [if_neg h0] at hc ⊢; exact g3 h0
  · obtain ⟨g1, g2, g3⟩ := h4 hg
    have hz : r.1 = 120 := by rw [hr, g1]; unfold accF; rw [if_pos hg]
    refine ⟨by rw [if_neg (by omega)]; exact g1, fun h => absurd h (by omega), fun _ => ?_⟩
    rcases Nat.eq_zero_or_pos k with hk0 | hk0
    · rw [if_pos (g2 hk0)]; exact hz
    · rw [if_neg (by have := g3 hk0; omega)]; exact g3 hk0
theorem PInv.done {s0 : MSt} {al : List Acc} {s : MSt} {code : Int} {sAt : MSt} {gs : List (Int × Bool)} (h : PInv s0 al al.length s code sAt gs) {code' : Int} (hc : code' = if al.length = 0 ∧ ¬ MGood s0.1 s0.2.1 then 120 else code) :
    runMF s0 al = (code', if code' = 0 then sAt else ([], [], false), if code' = 0 then gs else []) := by
  obtain ⟨_, _, h3, h4⟩ := h
  unfold runMF
  by_cases hg : MGood s0.1 s0.2.1
  · rw [if_neg (fun h => h.2 hg)] at hc
    subst hc
    obtain ⟨_, g2, g3⟩ := h3 hg
    rw [if_pos hg]
    by_cases h0 : code' = 0
    · rw [if_pos h0, if_pos h0, (g2 h0).2, (g2 h0).1, List.drop_length, h0]; rfl
    · rw [if_neg h0, if_neg h0, g3 h0]
  · rw [if_neg hg]
    obtain ⟨_, g2, g3⟩ := h4 hg
    have : code' = 120 := by
      by_cases hl : al.length = 0
      · rw [if_pos ⟨hl, hg⟩] at hc; exact hc
      · rw [if_neg (fun h => hl h.1)] at hc; rw [hc]; exact g3 (by omega)
    rw [this, if_neg (by decide), if_neg (by decide)]
end Go.Proofs.Ytenhojdhjfoomaa
