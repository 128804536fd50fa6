/- package reader: Check as a whole, Quiet. No condition but sizes. -/
import Derived.Test.YtbibfjncjklclaaRd4
namespace Go.Proofs.Ytbibfjncjklclaa
open Go.RowKit Go.Shelf Go.Maps

/-- readers that can be read -/
structure Rds (W : World) (A : Option Addr) (n c : Nat) (B : Option Addr) (m d : Nat) (ns os : List Int) : Prop where
  hx : Sl i64 0 W 0 W.heap.size A n ns
  hy : Sl i64 0 W 0 W.heap.size B m os
  hnc : n ≤ c
  hmd : m ≤ d
  hn : n ≤ 1000
  hm : m ≤ 1000
section
variable {W W' : World} {A : Option Addr} {n c : Nat} {B : Option Addr} {m d : Nat} {ns os : List Int}
theorem Rds.step (h : Rds W A n c B m d ns os) (hb : Below W.heap.size W W') : Rds W' A n c B m d ns os := ⟨h.hx.step hb, h.hy.step hb, h.hnc, h.hmd, h.hn, h.hm⟩
theorem Rds.box (h : Rds W A n c B m d ns os) (o : Obj) : Rds (W.alloc o) A n c B m d ns os := h.step (below_box W o)
theorem Rds.lenx (h : Rds W A n c B m d ns os) : ns.length = n := h.hx.len
theorem Rds.leny (h : Rds W A n c B m d ns os) : os.length = m := h.hy.len
end
@[reducible] def rcs (now : Int) (A : Option Addr) (n c : Nat) (B : Option Addr) (m d : Nat) : Array Value := #[.int .i64 now, .slice A n c, .slice B m d]

theorem check_good (now : Int) (A : Option Addr) (n c : Nat) (B : Option Addr) (m d : Nat) (ns os : List Int) (w : World) (h : Rds w A n c B m d ns os) (hg : Good now ns os) :
    Calls Try.prog 40 #[rv now A n c B m d] w fun e w' => e = .returned (.int .i64 0) ∧ Below w.heap.size w w' := by
  obtain ⟨⟨h1, h2, h3, h4, h5⟩, hr, ha⟩ := hg
  have hl := h.lenx; have hl' := h.leny
  obtain rfl : m = n := by omega
  have := check_ats (H := Unit) now A m c B d 0 ns os w h.hx h.hy (by omega) (by omega) h4 h5 (by rw [← hl]; exact hr)
  rw [if_pos (by rw [← hl]; exact ha)] at this
  exact calls_of_callsIn5 this
theorem check_bad (now : Int) (A : Option Addr) (n c : Nat) (B : Option Addr) (m d : Nat) (ns os : List Int) (w : World) (h : Rds w A n c B m d ns os) (hg : ¬ Good now ns os) :
    Calls Try.prog 40 #[rv now A n c B m d] w fun e w' => e = .returned (.int .i64 210) ∧ Below w.heap.size w w' := by
  by_cases hs : Shape now ns os
  · have hl := h.lenx; have hl' := h.leny
    have hs' := hs
    obtain ⟨h1, h2, h3, h4, h5⟩ := hs
    obtain rfl : m = n := by omega
    by_cases hr : ∀ k, k < m → RowOk ns os k
    · have := check_ats (H := Unit) now A m c B d 0 ns os w h.hx h.hy (by omega) (by omega) h4 h5 hr
      rw [if_neg (fun ha => hg ⟨hs', by rw [hl]; exact hr, by rw [hl]; exact ha⟩)] at this
      exact calls_of_callsIn5 this
    · refine check_rows now A m c B d 0 ns os w h.hx h.hy (by omega) (by omega) h4 h5 ?_
      apply Classical.byContradiction
      intro hno
      exact hr fun k hk => Classical.byContradiction fun hk' => hno ⟨k, hk, hk'⟩
  · exact check_shape now A n c B m d 0 ns os w h.hx h.hy (by have := h.hn; omega) (by have := h.hm; omega) hs

def QuietP (now : Int) (ns os : List Int) (cpu : Int) : Prop := Good now ns os ∧ 0 ≤ cpu ∧ cpu < ns.length ∧ ns[cpu.toNat]?.getD 0 = 0
instance {now : Int} {ns os : List Int} {cpu : Int} : Decidable (QuietP now ns os cpu) := by unfold QuietP; infer_instance

set_option maxHeartbeats 1000000 in
theorem quiet_any (now : Int) (A : Option Addr) (n c : Nat) (B : Option Addr) (m d : Nat) (ns os : List Int) (cpu : Int) (w : World) (h : Rds w A n c B m d ns os) :
    Calls Try.prog 77 #[rv now A n c B m d, .int .i64 cpu] w fun e w' => e = .returned (.bool (decide (QuietP now ns os cpu))) ∧ Below w.heap.size w w' := by
  have hB := below_box w (.cells (rcs now A n c B m d) 24)
  have h0 := h.box (.cells (rcs now A n c B m d) 24)
  have HL := hid h.lenx; have hn := h.hn
  by_cases hg : Good now ns os
  · have H := hid (check_good now A n c B m d ns os _ h0 hg)
    have HS := hid h0
    clear h0 h
    go_enter Try.func77, Try.ntmps77
    go_wp2_with fail
    refine H.out.mono ?_
    rintro e w1 ⟨rfl, hb⟩
    have P := (Blk.new w 24 (rcs now A n c B m d)).step hb
    have HS1 := hid (HS.out.step hb)
    have hB1 := below_then hB hb
    obtain ⟨k0, k1, k2, kf⟩ := P.cells3
    clear hb HS P
    by_cases h1 : 0 ≤ cpu
    · obtain ⟨k, rfl⟩ := Int.eq_ofNat_of_zero_le h1
      by_cases h2 : k < n
      · obtain ⟨b, off, rfl, _, _, hc⟩ := HS1.out.hx.row (by omega)
        have g := hc k h2
        obtain ⟨x, hX⟩ : ∃ x, x = ns[k]?.getD 0 := ⟨_, rfl⟩
        rw [← hX] at g
        have E := hid (show decide (QuietP now ns os k) = decide (x = 0) by
          have := HL.out
          refine decide_eq_decide.2 ⟨fun h => hX.trans h.2.2.2, fun h => ⟨hg, by omega, by omega, hX.symm.trans h⟩⟩)
        clear hc hX
        go_wp2
        go_ret
        exact ⟨ret_bool (by rw [E.out]; first | rfl | (cases h : (x == 0) <;> simp_all)), hB1⟩
      · have E := hid (show decide (QuietP now ns os k) = false by have := HL.out; exact decide_eq_false (fun h => by have := h.2.2.1; omega))
        have h2' : decide ((k : Int) < (n : Int)) = false := decide_eq_false (by omega)
        go_wp2
        go_ret
        exact ⟨ret_bool E.out.symm, hB1⟩
    · have E := hid (show decide (QuietP now ns os cpu) = false by exact decide_eq_false (fun h => by have := h.2.1; omega))
      have h1' : decide (0 ≤ cpu) = false := by simpa using h1
      go_wp2
      go_ret
      exact ⟨ret_bool E.out.symm, hB1⟩
  · have H := hid (check_bad now A n c B m d ns os _ h0 hg)
    have E := hid (show decide (QuietP now ns os cpu) = false by exact decide_eq_false (fun h => hg h.1))
    clear h0 h hg
    go_enter Try.func77, Try.ntmps77
    go_wp2_with fail
    refine H.out.mono ?_
    rintro e w1 ⟨rfl, hb⟩
    have hB1 := below_then hB hb
    go_wp2
    go_ret
    exact ⟨ret_bool E.out.symm, hB1⟩

/-! ### Oldest -/
def older (out at_ : Int) : Int := if out = 0 ∨ at_ < out then at_ else out
def oldF (l : List (Int × Int)) : Int := (l.map Prod.snd).foldl older 0
theorem oldF_snoc (l : List (Int × Int)) (x : Int × Int) : oldF (l ++ [x]) = older (oldF l) x.2 := by simp [oldF]

set_option maxHeartbeats 1000000 in
theorem older_any (g : Nat) (out at_ : Int) (w : World) (h : Blk w g 3 #[.int .i64 out]) :
    Calls Try.prog 72 #[.int .i64 at_, .pointer (some ⟨g, 0, none⟩)] w fun e w' => e = .returned (.bool (decide (out = 0 ∨ at_ < out))) ∧ w = w' := by
  obtain ⟨k0, kf⟩ := h.cells1
  by_cases h0 : out = 0
  · have E := hid (show decide (out = 0 ∨ at_ < out) = true from decide_eq_true (.inl h0))
    have h0' : (out == 0) = true := by simp [h0]
    clear h0 h
    go_enter Try.func72, Try.ntmps72
    go_wp2
    go_ret
    exact ⟨ret_bool E.out.symm, rfl⟩
  · have E := hid (show decide (out = 0 ∨ at_ < out) = decide (at_ < out) from decide_eq_decide.2 ⟨fun h => h.resolve_left h0, .inr⟩)
    have h0' : (out == 0) = false := by simp [h0]
    clear h0 h
    go_enter Try.func72, Try.ntmps72
    go_wp2
    go_ret
    exact ⟨ret_bool E.out.symm, rfl⟩
end Go.Proofs.Ytbibfjncjklclaa
