/- package memory: own. No condition but sizes. -/
import Derived.Test.YtnkaajkdjbdpaaaMe
import Derived.Test.YtnkaajkdjbdpaaaKitA
import Derived.Deep.DeepCutAuto
namespace Go.Proofs.Ytnkaajkdjbdpaaa
open Go.RowKit
/-- a memory with two rows of its own -/
structure Mown (W : World) (lo : Nat) (A : Option Addr) (n c : Nat) (B : Option Addr) (m d : Nat) (ws : List Int) (ls : List Bool) : Prop where
  oa : Ow u64v W lo 27 A n c ws
  ob : Ow blv W lo 4 B m d ls
  apart : ∀ a b, A = some a → B = some b → a.block ≠ b.block
  hn : n ≤ 100000
  hm : m ≤ 100000
section
variable {W W' : World} {A : Option Addr} {n c lo lo' : Nat} {B : Option Addr} {m d : Nat} {ws : List Int} {ls : List Bool}
theorem Mown.mem (h : Mown W lo A n c B m d ws ls) : Mem W A n c B m d ws ls := ⟨h.oa.sl.mono (Nat.zero_le _) (Nat.le_refl _), h.ob.sl.mono (Nat.zero_le _) (Nat.le_refl _), h.oa.cap.1, h.ob.cap.1, h.hn, h.hm⟩
theorem Mown.step (h : Mown W lo A n c B m d ws ls) (hb : Below W.heap.size W W') : Mown W' lo A n c B m d ws ls := ⟨h.oa.below hb, h.ob.below hb, h.apart, h.hn, h.hm⟩
theorem Mown.mono (h : Mown W lo A n c B m d ws ls) (hl : lo' ≤ lo) : Mown W lo' A n c B m d ws ls := ⟨h.oa.mono hl, h.ob.mono hl, h.apart, h.hn, h.hm⟩
end
def OwnPost (W : World) (n m : Nat) (f : Bool) (ws : List Int) (ls : List Bool) (e : Ending) (W' : World) : Prop :=
  ∃ ga gb, e = .returned (mv (some ⟨ga, 0, none⟩) n n (some ⟨gb, 0, none⟩) m m f) ∧ Mown W' W.heap.size (some ⟨ga, 0, none⟩) n n (some ⟨gb, 0, none⟩) m m ws ls ∧ Below W.heap.size W W'
theorem run_make_u64 (n : Nat) (hn : n ≤ 1000000) (w : World) :
    (Instr.makeSlice 24 (.int .i64 n) (.int .i64 n)).run Try.prog w = .ok (.slice (some ⟨w.heap.size, 0, none⟩) n n) (w.alloc (.cells (zrow (.int .u64 0) n) 27)) := by
  obtain ⟨i0, hi0, hz00, hz01, hz02⟩ := info_parts info_u64
  exact run_make1 Try.underlying24 hi0 hz00 hz01 rfl n (by rw [hz02]; omega) hn w
theorem run_make_bool (n : Nat) (hn : n ≤ 1000000) (w : World) :
    (Instr.makeSlice 42 (.int .i64 n) (.int .i64 n)).run Try.prog w = .ok (.slice (some ⟨w.heap.size, 0, none⟩) n n) (w.alloc (.cells (zrow (.bool false) n) 4)) := by
  obtain ⟨i0, hi0, hz00, hz01, hz02⟩ := info_parts info_bool
  exact run_make1 Try.underlying42 hi0 hz00 hz01 rfl n (by rw [hz02]; omega) hn w
/-- behind the making of the rows -/
structure MkRel (W : World) (n m : Nat) (f : Bool) (wx : World) (g ga gb : Nat) : Prop where
  box : Blk wx g 44 (mcs (some ⟨ga, 0, none⟩) n n (some ⟨gb, 0, none⟩) m m f)
  ba : Blk wx ga 27 (zrow (.int .u64 0) n)
  bb : Blk wx gb 4 (zrow (.bool false) m)
  ne : ga ≠ gb ∧ ga ≠ g ∧ gb ≠ g
  lo : W.heap.size ≤ g ∧ W.heap.size ≤ ga ∧ W.heap.size ≤ gb
  below : Below W.heap.size W wx

set_option maxHeartbeats 2000000 in
theorem mown_any (A : Option Addr) (n c : Nat) (B : Option Addr) (m d : Nat) (f : Bool) (ws : List Int) (ls : List Bool) (w : World) (h : Mem w A n c B m d ws ls) :
    Calls Try.prog 74 #[mv A n c B m d f] w (OwnPost w n m f ws ls) := by
  have hm1 := run_make_u64 n (by have := h.hn; omega)
  have hm2 := run_make_bool m (by have := h.hm; omega)
  have hB := below_then (below_box w (.cells (mcs A n c B m d f) 44)) (below_box _ (.cells (mcs none 0 0 none 0 0 false) 44))
  have HR := hid (h.step hB)
  have PR := (Blk.new w 44 (mcs A n c B m d f)).step (below_box _ (.cells (mcs none 0 0 none 0 0 false) 44))
  have PZ := Blk.new2 w 44 (mcs none 0 0 none 0 0 false) (.cells (mcs A n c B m d f) 44)
  have hz : ((w.alloc (.cells (mcs A n c B m d f) 44)).alloc (.cells (mcs none 0 0 none 0 0 false) 44)).heap.size = w.heap.size + 2 := by simp
  obtain ⟨k0, k1, k2, kf⟩ := PR.cells3
  have hn := h.hn; have hm := h.hm
  have HPR := hid PR; have HPZ := hid PZ; have HB := hid hB; have HZ := hid hz; have H0 := hid h
  clear PR PZ hB hz h
  go_enter Try.func74, Try.ntmps74
  go_upto_region 1 with fail
  obtain ⟨W0, hW0⟩ : ∃ W0, W0 = ((w.alloc (.cells #[.slice A n c, .slice B m d, .bool f] 44)).alloc (.cells #[.slice none 0 0, .slice none 0 0, .bool false] 44)) := ⟨_, rfl⟩
  have HW0 := hid hW0; clear hW0
  go_cut [3] (fun s3 wx => ∃ g ga gb : Nat, s3 = .pointer (some ⟨g, 0, none⟩) ∧ MkRel W0 n m f wx g ga gb)
  case first =>
    go_region
    all_goals
      go_wp2_with fail
      go_meet
      rw [HW0.out]
      refine' ⟨_, _, _, rfl, ⟨?box, ?ba, ?bb, ?ne, ?lo, ?below⟩⟩
      case box => (first | exact Blk.drew (Blk.at (by simp <;> omega)) | exact Blk.drew (Blk.alloc (Blk.at (by simp <;> omega)) _) | exact Blk.drew (Blk.alloc (Blk.alloc (Blk.at (by simp <;> omega)) _) _))
      case ba => (first | exact Blk.drew (Blk.at (by simp <;> omega)) | exact Blk.drew (Blk.alloc (Blk.at (by simp <;> omega)) _) | exact Blk.drew (Blk.alloc (Blk.alloc (Blk.at (by simp <;> omega)) _) _))
      case bb => (first | exact Blk.drew (Blk.at (by simp <;> omega)) | exact Blk.drew (Blk.alloc (Blk.at (by simp <;> omega)) _) | exact Blk.drew (Blk.alloc (Blk.alloc (Blk.at (by simp <;> omega)) _) _))
      case ne => exact ⟨by omega, by omega, by omega⟩
      case lo => exact ⟨by simp <;> omega, by simp <;> omega, by simp <;> omega⟩
      case below => (first | exact (((Below.refl _ _).alloc (by simp <;> omega) _).alloc (by simp <;> omega) _).alloc (by simp <;> omega) _ | exact ((((Below.refl _ _).alloc (by simp <;> omega) _).alloc (by simp <;> omega) _).alloc (by simp <;> omega) _).drew)
  case rest =>
    obtain ⟨g, ga, gb, rfl, hr⟩ := hcut
    obtain ⟨d1, d2, d3⟩ := hr.ne
    obtain ⟨l1, l2, l3⟩ := hr.lo
    have hz := HZ.out
    rw [← HW0.out] at hz
    have HPR' := HPR.out; rw [show mcs A n c B m d f = #[.slice A n c, .slice B m d, .bool f] from rfl, ← HW0.out] at HPR'
    have HR' := HR.out; rw [show mcs A n c B m d f = #[.slice A n c, .slice B m d, .bool f] from rfl, show mcs none 0 0 none 0 0 false = #[.slice none 0 0, .slice none 0 0, .bool false] from rfl, ← HW0.out] at HR'
    have HB' := HB.out; rw [show mcs A n c B m d f = #[.slice A n c, .slice B m d, .bool f] from rfl, show mcs none 0 0 none 0 0 false = #[.slice none 0 0, .slice none 0 0, .bool false] from rfl, ← HW0.out] at HB'
    have HPZ' := HPZ.out; rw [show mcs A n c B m d f = #[.slice A n c, .slice B m d, .bool f] from rfl, show mcs none 0 0 none 0 0 false = #[.slice none 0 0, .slice none 0 0, .bool false] from rfl, ← HW0.out] at HPZ'
    clear k0 k1 k2 kf HR HPZ
    have PZ2 := ((HPZ'.step hr.below).farRow (k := ga) (cs' := (ws.map u64v).toArray) (by omega)).farRow (k := gb) (cs' := (ls.map blv).toArray) (by omega)
    obtain ⟨z0, z1, z2, zf⟩ := PZ2.cells3
    have HPZ2 := hid PZ2
    have hzB : w.heap.size ≤ ga ∧ w.heap.size ≤ gb := by omega
    have HzB := hid hzB
    have HD := hid (⟨d1, by omega, by omega⟩ : ga ≠ gb ∧ ga ≠ w.heap.size + 1 ∧ gb ≠ w.heap.size + 1)
    clear PZ2 HPZ' hzB
    have P0 := (HPR'.step hr.below)
    have R0 := HR'.step hr.below
    have P1 := P0.farRow (k := ga) (cs' := (ws.map u64v).toArray) (by omega)
    have X1 := hr.box.farRow (k := ga) (cs' := (ws.map u64v).toArray) (by omega)
    have P2 := P1.farRow (k := gb) (cs' := (ls.map blv).toArray) (by omega)
    have X2 := X1.farRow (k := gb) (cs' := (ls.map blv).toArray) (by omega)
    have BA := (hr.ba.setRow (cs' := (ws.map u64v).toArray)).farRow (k := gb) (cs' := (ls.map blv).toArray) (by omega)
    have BB1 := hr.bb.farRow (k := ga) (cs' := (ws.map u64v).toArray) (by omega)
    have BB := BB1.setRow (cs' := (ls.map blv).toArray)
    have hx := hid (R0.hx)
    have hy := hid (HR'.hy.below hr.below (Nat.le_refl _))
    have hy1 := hid (hy.out.setRow' l2 (ws.map u64v).toArray)
    have HBx := hid (below_setRow (below_setRow (below_then HB' hr.below) (g := ga) (by omega) (ws.map u64v).toArray) (g := gb) (by omega) (ls.map blv).toArray)
    have HBA := hid hr.ba; have HBB1 := hid BB1; have HFA := hid BA; have HFB := hid BB
    have HX2 := hid X2
    obtain ⟨k0, k1, k2, kf⟩ := P0.cells3
    obtain ⟨p0, p1, p2, pf⟩ := P1.cells3
    obtain ⟨s0, s1, s2, sf⟩ := hr.box.cells3
    obtain ⟨t0, t1, t2, tf⟩ := X1.cells3
    obtain ⟨v0, v1, v2, vf⟩ := X2.cells3
    clear P0 P1 P2 X1 X2 BA BB BB1 R0 HR' HB' HPR' hr
    have q1 := fun ty => run_copy_full (P := Try.prog) u64v 0 24 24 ty 27 Try.underlying24 (by kernel_rfl) ga n n c A _ _ HBA.out (by simp [zrow]) _ _ ws hx.out (fun _ => rfl)
    have q2 := fun ty => run_copy_full (P := Try.prog) blv false 42 42 ty 4 Try.underlying42 (by kernel_rfl) gb m m d B _ _ HBB1.out (by simp [zrow]) _ _ ls hy1.out (fun _ => rfl)
    go_wp2
    have q := ((HPZ2.out.setCell 0 (.slice (some ⟨ga, 0, none⟩) n n)).setCell 1 (.slice (some ⟨gb, 0, none⟩) m m)).setCell 2 (.bool f)
    obtain ⟨q0, q1, q2, qf⟩ := q.cells3
    obtain ⟨e1, e2, e3⟩ := HD.out
    obtain ⟨l4, l5⟩ := HzB.out
    have hle := H0.out.lenx; have hle' := H0.out.leny
    refine bodyPost_ret (v := mv (some ⟨ga, 0, none⟩) n n (some ⟨gb, 0, none⟩) m m f) (by simp [results, Try.results74, go_sem, q0, q1, q2]) rfl ⟨ga, gb, rfl, ⟨?_, ?_, fun a b h1 h2 => by simp at h1 h2; subst h1 h2; exact e1, hn, hm⟩, ?_⟩
    · exact Blk.ow (((HFA.out.far (by simp; omega) _).far (by simp; omega) _).far (by simp; omega) _) rfl hle l4 (by simp [maxLen]; omega)
    · exact Blk.ow (((HFB.out.far (by simp; omega) _).far (by simp; omega) _).far (by simp; omega) _) rfl hle' l5 (by simp [maxLen]; omega)
    · exact (((HBx.out.setCell (by simp) _).setCell (by simp) _).setCell (by simp) _)
end Go.Proofs.Ytnkaajkdjbdpaaa
