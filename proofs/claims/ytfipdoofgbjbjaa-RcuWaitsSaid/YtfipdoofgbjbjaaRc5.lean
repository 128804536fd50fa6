/- package rcu: sure; what a cpu holds. No condition but sizes. -/
import Derived.Test.YtfipdoofgbjbjaaRc4
namespace Go.Proofs.Ytfipdoofgbjbjaa
open Go.RowKit
attribute [local go_sem] Oper.semAt_some
set_option maxRecDepth 100000 in
set_option maxHeartbeats 2000000 in
theorem sureQ_yes (A : Option Addr) (n k : Nat) (o : Int) (w : World) : Calls Try.prog 62 #[.agg #[.slice A n k, .int .u64 o], .int .i64 0] w fun x w' => x = .returned (.agg #[.slice A n k, .int .u64 o]) ∧ Below w.heap.size w w' := by
  have HB := hid (Below.refl w.heap.size w)
  have bx := below_box w (.cells #[.slice A n k, .int .u64 o] 40)
  replace HB := hid (below_then HB.out bx)
  clear bx
  have PX := hid (Blk.new w 40 #[.slice A n k, .int .u64 o])
  have bx := below_box (w.alloc (.cells #[.slice A n k, .int .u64 o] 40)) (.cells #[.slice none 0 0, .int .u64 0] 40)
  replace PX := hid (PX.out.step bx); replace HB := hid (below_then HB.out bx)
  clear bx
  have PZ := hid (Blk.new2 w 40 #[.slice none 0 0, .int .u64 0] (.cells #[.slice A n k, .int .u64 o] 40))
  go_enter Try.func62, Try.ntmps62
  go_wp2_with fail
  have hz0 := hid (show ((w.alloc (.cells #[.slice A n k, .int .u64 o] 40)).alloc (.cells #[.slice none 0 0, .int .u64 0] 40)).heap.size = w.heap.size + 2 by simp)
  generalize (w.alloc (.cells #[.slice A n k, .int .u64 o] 40)).alloc (.cells #[.slice none 0 0, .int .u64 0] 40) = W0 at *
  refine (rneed_yes 0 _).mono ?_
  rintro e v1 ⟨rfl, rfl⟩
  obtain ⟨y00, y01, yf0⟩ := PX.out.cells2
  obtain ⟨y10, y11, yf1⟩ := PZ.out.cells2
  go_wp2_with fail
  clear y00 y01 yf0 y10 y11 yf1
  have Z4 := hid (show Blk ((v1.setCell ⟨w.heap.size + 1, 0, none⟩ (.slice A n k)).setCell ⟨w.heap.size + 1, 1, none⟩ (.int .u64 o)) (w.heap.size + 1) 40 #[.slice A n k, .int .u64 o] from ((PZ.out.setCell 0 (.slice A n k)).setCell 1 (.int .u64 o)))
  obtain ⟨y00, y01, yf0⟩ := Z4.out.cells2
  exact bodyPost_ret (v := .agg #[.slice A n k, .int .u64 o]) (by simp [results, Try.results62, go_sem, y00, y01]) rfl ⟨rfl, ((HB.out.setCell (p := ⟨w.heap.size + 1, 0, none⟩) (by simp) (.slice A n k)).setCell (p := ⟨w.heap.size + 1, 1, none⟩) (by simp) (.int .u64 o))⟩
set_option maxRecDepth 100000 in
set_option maxHeartbeats 2000000 in
theorem sureQ_no (A : Option Addr) (n k : Nat) (o : Int) (c : Int) (w : World) (hc : c ≠ 0) : Calls Try.prog 62 #[.agg #[.slice A n k, .int .u64 o], .int .i64 c] w fun x w' => x = leaves c ∧ Below w.heap.size w w' := by
  have d1 : (c == 0) = false := by simpa using hc
  have HB := hid (Below.refl w.heap.size w)
  clear hc
  have bx := below_box w (.cells #[.slice A n k, .int .u64 o] 40)
  replace HB := hid (below_then HB.out bx)
  clear bx
  have bx := below_box (w.alloc (.cells #[.slice A n k, .int .u64 o] 40)) (.cells #[.slice none 0 0, .int .u64 0] 40)
  replace HB := hid (below_then HB.out bx)
  clear bx
  go_enter Try.func62, Try.ntmps62
  go_wp2_with fail
  refine (rneed_no c _).mono ?_
  rintro e v1 ⟨rfl, rfl⟩
  unfold leaves
  go_wp2_with fail
  exact ⟨rfl, rfl, HB.out⟩
set_option maxRecDepth 100000 in
set_option maxHeartbeats 2000000 in
theorem sureR_yes (now : Int) (A : Option Addr) (n k : Nat) (B : Option Addr) (m d : Nat) (w : World) : Calls Try.prog 72 #[.agg #[.int .i64 now, .slice A n k, .slice B m d], .int .i64 0] w fun x w' => x = .returned (.agg #[.int .i64 now, .slice A n k, .slice B m d]) ∧ Below w.heap.size w w' := by
  have HB := hid (Below.refl w.heap.size w)
  have bx := below_box w (.cells #[.int .i64 now, .slice A n k, .slice B m d] 24)
  replace HB := hid (below_then HB.out bx)
  clear bx
  have PX := hid (Blk.new w 24 #[.int .i64 now, .slice A n k, .slice B m d])
  have bx := below_box (w.alloc (.cells #[.int .i64 now, .slice A n k, .slice B m d] 24)) (.cells #[.int .i64 0, .slice none 0 0, .slice none 0 0] 24)
  replace PX := hid (PX.out.step bx); replace HB := hid (below_then HB.out bx)
  clear bx
  have PZ := hid (Blk.new2 w 24 #[.int .i64 0, .slice none 0 0, .slice none 0 0] (.cells #[.int .i64 now, .slice A n k, .slice B m d] 24))
  go_enter Try.func72, Try.ntmps72
  go_wp2_with fail
  have hz0 := hid (show ((w.alloc (.cells #[.int .i64 now, .slice A n k, .slice B m d] 24)).alloc (.cells #[.int .i64 0, .slice none 0 0, .slice none 0 0] 24)).heap.size = w.heap.size + 2 by simp)
  generalize (w.alloc (.cells #[.int .i64 now, .slice A n k, .slice B m d] 24)).alloc (.cells #[.int .i64 0, .slice none 0 0, .slice none 0 0] 24) = W0 at *
  refine (rneed_yes 0 _).mono ?_
  rintro e v1 ⟨rfl, rfl⟩
  obtain ⟨y00, y01, y02, yf0⟩ := PX.out.cells3
  obtain ⟨y10, y11, y12, yf1⟩ := PZ.out.cells3
  go_wp2_with fail
  clear y00 y01 y02 yf0 y10 y11 y12 yf1
  have Z4 := hid (show Blk (((v1.setCell ⟨w.heap.size + 1, 0, none⟩ (.int .i64 now)).setCell ⟨w.heap.size + 1, 1, none⟩ (.slice A n k)).setCell ⟨w.heap.size + 1, 2, none⟩ (.slice B m d)) (w.heap.size + 1) 24 #[.int .i64 now, .slice A n k, .slice B m d] from (((PZ.out.setCell 0 (.int .i64 now)).setCell 1 (.slice A n k)).setCell 2 (.slice B m d)))
  obtain ⟨y00, y01, y02, yf0⟩ := Z4.out.cells3
  exact bodyPost_ret (v := .agg #[.int .i64 now, .slice A n k, .slice B m d]) (by simp [results, Try.results72, go_sem, y00, y01, y02]) rfl ⟨rfl, (((HB.out.setCell (p := ⟨w.heap.size + 1, 0, none⟩) (by simp) (.int .i64 now)).setCell (p := ⟨w.heap.size + 1, 1, none⟩) (by simp) (.slice A n k)).setCell (p := ⟨w.heap.size + 1, 2, none⟩) (by simp) (.slice B m d))⟩
set_option maxRecDepth 100000 in
set_option maxHeartbeats 2000000 in
theorem sureR_no (now : Int) (A : Option Addr) (n k : Nat) (B : Option Addr) (m d : Nat) (c : Int) (w : World) (hc : c ≠ 0) : Calls Try.prog 72 #[.agg #[.int .i64 now, .slice A n k, .slice B m d], .int .i64 c] w fun x w' => x = leaves c ∧ Below w.heap.size w w' := by
  have d1 : (c == 0) = false := by simpa using hc
  have HB := hid (Below.refl w.heap.size w)
  clear hc
  have bx := below_box w (.cells #[.int .i64 now, .slice A n k, .slice B m d] 24)
  replace HB := hid (below_then HB.out bx)
  clear bx
  have bx := below_box (w.alloc (.cells #[.int .i64 now, .slice A n k, .slice B m d] 24)) (.cells #[.int .i64 0, .slice none 0 0, .slice none 0 0] 24)
  replace HB := hid (below_then HB.out bx)
  clear bx
  go_enter Try.func72, Try.ntmps72
  go_wp2_with fail
  refine (rneed_no c _).mono ?_
  rintro e v1 ⟨rfl, rfl⟩
  unfold leaves
  go_wp2_with fail
  exact ⟨rfl, rfl, HB.out⟩
set_option maxRecDepth 100000 in
set_option maxHeartbeats 2000000 in
theorem sureG_yes (dn ak : Int) (on : Bool) (D : Option Addr) (n k : Nat) (w : World) : Calls Try.prog 59 #[.agg #[.int .i64 dn, .int .i64 ak, .bool on, .slice D n k], .int .i64 0] w fun x w' => x = .returned (.agg #[.int .i64 dn, .int .i64 ak, .bool on, .slice D n k]) ∧ Below w.heap.size w w' := by
  have HB := hid (Below.refl w.heap.size w)
  have bx := below_box w (.cells #[.int .i64 dn, .int .i64 ak, .bool on, .slice D n k] 27)
  replace HB := hid (below_then HB.out bx)
  clear bx
  have PX := hid (Blk.new w 27 #[.int .i64 dn, .int .i64 ak, .bool on, .slice D n k])
  have bx := below_box (w.alloc (.cells #[.int .i64 dn, .int .i64 ak, .bool on, .slice D n k] 27)) (.cells #[.int .i64 0, .int .i64 0, .bool false, .slice none 0 0] 27)
  replace PX := hid (PX.out.step bx); replace HB := hid (below_then HB.out bx)
  clear bx
  have PZ := hid (Blk.new2 w 27 #[.int .i64 0, .int .i64 0, .bool false, .slice none 0 0] (.cells #[.int .i64 dn, .int .i64 ak, .bool on, .slice D n k] 27))
  go_enter Try.func59, Try.ntmps59
  go_wp2_with fail
  have hz0 := hid (show ((w.alloc (.cells #[.int .i64 dn, .int .i64 ak, .bool on, .slice D n k] 27)).alloc (.cells #[.int .i64 0, .int .i64 0, .bool false, .slice none 0 0] 27)).heap.size = w.heap.size + 2 by simp)
  generalize (w.alloc (.cells #[.int .i64 dn, .int .i64 ak, .bool on, .slice D n k] 27)).alloc (.cells #[.int .i64 0, .int .i64 0, .bool false, .slice none 0 0] 27) = W0 at *
  refine (rneed_yes 0 _).mono ?_
  rintro e v1 ⟨rfl, rfl⟩
  obtain ⟨y00, y01, y02, y03, yf0⟩ := PX.out.cells4
  obtain ⟨y10, y11, y12, y13, yf1⟩ := PZ.out.cells4
  go_wp2_with fail
  clear y00 y01 y02 y03 yf0 y10 y11 y12 y13 yf1
  have Z4 := hid (show Blk ((((v1.setCell ⟨w.heap.size + 1, 0, none⟩ (.int .i64 dn)).setCell ⟨w.heap.size + 1, 1, none⟩ (.int .i64 ak)).setCell ⟨w.heap.size + 1, 2, none⟩ (.bool on)).setCell ⟨w.heap.size + 1, 3, none⟩ (.slice D n k)) (w.heap.size + 1) 27 #[.int .i64 dn, .int .i64 ak, .bool on, .slice D n k] from ((((PZ.out.setCell 0 (.int .i64 dn)).setCell 1 (.int .i64 ak)).setCell 2 (.bool on)).setCell 3 (.slice D n k)))
  obtain ⟨y00, y01, y02, y03, yf0⟩ := Z4.out.cells4
  exact bodyPost_ret (v := .agg #[.int .i64 dn, .int .i64 ak, .bool on, .slice D n k]) (by simp [results, Try.results59, go_sem, y00, y01, y02, y03]) rfl ⟨rfl, ((((HB.out.setCell (p := ⟨w.heap.size + 1, 0, none⟩) (by simp) (.int .i64 dn)).setCell (p := ⟨w.heap.size + 1, 1, none⟩) (by simp) (.int .i64 ak)).setCell (p := ⟨w.heap.size + 1, 2, none⟩) (by simp) (.bool on)).setCell (p := ⟨w.heap.size + 1, 3, none⟩) (by simp) (.slice D n k))⟩
/-- the blocks that a cpu's methods write -/
def CS (gc : Nat) (Q R : Option Addr) (i : Nat) : Prop := i = gc ∨ (∃ b, Q = some b ∧ i = b.block) ∨ ∃ b, R = some b ∧ i = b.block
theorem Qown.keptP {w w' : World} {lo n : Nat} {A : Option Addr} {xs : List Cb} {p : Nat → Prop} (h : Qown w lo A n xs) (k : GrownP p w w') (hp : 0 < n → ∀ a, A = some a → ¬ p a.block) : Qown w' lo A n xs := by
  rcases Nat.eq_zero_or_pos n with h0 | h0
  · subst h0
    have hl := h.sm.len
    exact ⟨⟨hl, fun hn => absurd hn (by omega)⟩, fun hn => absurd hn (by omega)⟩
  · obtain ⟨b, off, rfl, h1, h2, hc⟩ := h.sm.row h0
    have hb : w'.heap[b]? = w.heap[b]? := k.block b h2 (hp h0 _ rfl)
    refine ⟨⟨h.sm.len, fun _ => ⟨b, off, rfl, h1, Nat.lt_of_lt_of_le h2 k.size, fun i hi j hj => ?_⟩⟩, fun hn b' off' e i => ?_⟩
    · rw [← hc i hi j hj]; unfold World.cell?; rw [hb]
    · cases e
      rw [← h.free hn b off rfl i]; unfold World.frozen?; rw [hb]
/-- a queue whose row a cpu owns -/
def QeO (w : World) (lo : Nat) (S : Nat → Prop) (x : Qe) : Prop := Qown w lo x.A x.n x.l ∧ x.n ≤ x.c ∧ x.n ≤ 1000 ∧ (0 ≤ x.o ∧ x.o ≤ 18446744073709551615) ∧ (0 < x.n → ∀ a, x.A = some a → ¬ S a.block)
/-- what a cpu holds -/
structure CA (w : World) (l gc : Nat) (s : St) (g : Gr) (es : List Qe) (is what : Int) (ran : List Int) (a : Ra) (R : Option Addr) (nr kr : Nat) : Prop where
  box : Blk w gc 79 (ccells s g a is what R nr kr)
  ro : Rown w l a.A a.n a.k a.B a.m a.d s.2.1 s.2.2
  gd : Ow blv w l 4 a.D g.nd.length a.kd g.nd
  qs : Om 2 encQ w l 40 a.Q a.nq a.kq es
  rn : Ow u64v w l 38 R nr kr ran
  qe : ∀ x ∈ es, QeO w l (CS gc a.Q R) x
  lg : l ≤ gc
section
variable {w w' : World} {l gc : Nat} {s : St} {g : Gr} {es : List Qe} {is what : Int} {ran : List Int} {a : Ra} {R : Option Addr} {nr kr : Nat}
theorem QeO.step {S : Nat → Prop} {x : Qe} {lo : Nat} (h : QeO w lo S x) (hb : Below w.heap.size w w') : QeO w' lo S x := ⟨h.1.step hb, h.2⟩
theorem CA.step (h : CA w l gc s g es is what ran a R nr kr) (hb : Below w.heap.size w w') : CA w' l gc s g es is what ran a R nr kr :=
  ⟨h.box.step hb, h.ro.step hb, h.gd.step hb, h.qs.step hb, h.rn.step hb, fun x hx => (h.qe x hx).step hb, h.lg⟩
/-- a box that is new to it is turned -/
theorem CA.turn (h : CA w l gc s g es is what ran a R nr kr) {q : Nat} {t : TypeId} {cs : Array Value} (hb : Blk w q t cs) (h1 : t ≠ 79) (h2 : t ≠ 3) (h3 : t ≠ 4) (h4 : t ≠ 38)
    (hq : ∀ b, a.Q = some b → b.block ≠ q) (hf : ∀ x ∈ es, 0 < x.n → ∀ b, x.A = some b → b.block ≠ q) (hg : w.grownBy w' (some q)) : CA w' l gc s g es is what ran a R nr kr := by
  refine ⟨h.box.grown hg (fun e => ?_), h.ro.keptR hb h2 hg, h.gd.keptR hb h3 hg, h.qs.keptG hg (fun b hb e => hq b hb (Option.some.inj e)), h.rn.keptR hb h4 hg, fun x hx => ?_, h.lg⟩
  · have e1 := Option.some.inj e
    subst e1
    have := h.box
    unfold Blk at this hb
    rw [hb] at this
    simp at this
    exact h1 this.2
  · obtain ⟨k1, k2⟩ := h.qe x hx
    exact ⟨k1.keptP (GrownP.ofGrown (p := fun i => i = q) hg rfl) (fun hn b hb e => hf x hx hn b hb e), k2⟩
theorem CA.rcr (h : CA w l gc s g es is what ran a R nr kr) (gl : g.nd.length ≤ 1000) (gi : g.dn ≤ 9223372036854775807 ∧ g.ak ≤ 9223372036854775807) (ql : a.nq ≤ 1000) : RcR w s g es a :=
  ⟨h.ro.rds, (h.gd.sl (d := false)).mono (Nat.zero_le _) (Nat.le_refl _), gl, gi, (h.qs.sm (d := zQe)).mono (Nat.zero_le _) (Nat.le_refl _), ql, fun x hx => ⟨((h.qe x hx).1.mono (Nat.zero_le _)).sm, (h.qe x hx).2.1, (h.qe x hx).2.2.1, (h.qe x hx).2.2.2.1.1, (h.qe x hx).2.2.2.1.2⟩⟩
end
/-- what tries lays is what a cpu holds -/
theorem RcT.ca {w : World} {l gc : Nat} {s : St} {g : Gr} {es : List Qe} {a : Ra} (h : RcT w l s g es a) (hb : Blk w gc 79 (ccells s g a 0 0 none 0 0)) (hl : l ≤ gc) (ho : ∀ x ∈ es, 0 ≤ x.o ∧ x.o ≤ 18446744073709551615) : CA w l gc s g es 0 0 [] a none 0 0 := by
  refine ⟨hb, h.ro, h.gd, h.qs, Ow.nil _ _ _, fun x hx => ⟨Qown.ofOm (h.qe x hx).1, (h.qe x hx).1.cap.1, (h.qe x hx).2, ho x hx, fun hn b hbx hs => ?_⟩, hl⟩
  obtain ⟨_, cs, hbb⟩ := (h.qe x hx).1.blk b hbx
  rcases hs with e | ⟨q, hq, e⟩ | ⟨q, hq, _⟩
  · exact (h.qe x hx).1.ne_blk hb (by decide) b hbx e
  · exact h.qs.ne_blk hbb (by decide) q hq e.symm
  · cases hq
end Go.Proofs.Ytfipdoofgbjbjaa
