/- package memory: Step where it goes on. No condition but sizes. -/
import Derived.Test.YtnkaajkdjbdpaaaMe7
namespace Go.Proofs.Ytnkaajkdjbdpaaa
open Go.RowKit
theorem Ow.grown' {α : Type} {enc : α → Value} {w w' : World} {lo : Nat} {e : TypeId} {gb n c : Nat} {xs : List α} {ga : Nat} (h : Ow enc w lo e (some ⟨gb, 0, none⟩) n c xs) (hg : w.grownBy w' (some ga)) (hne : ga ≠ gb) : Ow enc w' lo e (some ⟨gb, 0, none⟩) n c xs := by
  refine ⟨h.len, h.own.1, ?_⟩
  rcases h.own.2 with ⟨hv, _⟩ | ⟨g, cap, cur, hv, hb1, hgg, r⟩
  · simp at hv
  · simp only [Value.slice.injEq, Option.some.injEq, Addr.mk.injEq] at hv
    obtain ⟨⟨rfl, _⟩, _⟩ := hv
    exact .inr ⟨gb, cap, cur, by simp_all, hb1, (hg.block _ (Array.getElem?_eq_some_iff.1 hgg).1 (by simp; omega)).trans hgg, r⟩
def fnOf (k : Int) : FuncId := if k = 1 then 79 else if k = 2 then 80 else 81
set_option maxRecDepth 100000 in
theorem idx_does (k : Int) (h1 : 1 ≤ k) (h3 : k ≤ 3) (W : World) : (Instr.index 127 (.agg #[.nilFunc, .func (.func 79) #[] #[], .func (.func 80) #[] #[], .func (.func 81) #[] #[]]) (.int .i64 k)).run Try.prog W = .ok (.func (.func (fnOf k)) #[] #[]) W := by
  have : k = 1 ∨ k = 2 ∨ k = 3 := by omega
  rcases this with rfl | rfl | rfl <;> rfl
/-- behind the access -/
structure StepRel (w wx : World) (lo o ga gb m : Nat) (f : Bool) (x : Int) (y : Bool) (ws : List Int) (ls : List Bool) : Prop where
  oa : Ow u64v wx lo 27 (some ⟨ga, 0, none⟩) m m ws
  ob : Ow blv wx lo 4 (some ⟨gb, 0, none⟩) m m ls
  hm : m ≤ 100000
  po : Blk wx o 44 (mcs (some ⟨ga, 0, none⟩) m m (some ⟨gb, 0, none⟩) m m f)
  pq : Blk wx (o + 1) 112 #[.int .u64 x, .bool y]
  pz : Blk wx (w.heap.size + 1 + 1) 44 (mcs none 0 0 none 0 0 false)
  pg : Blk wx (w.heap.size + 1 + 1 + 1) 112 #[.int .u64 0, .bool false]
  be : Below w.heap.size w wx
  ne : ga ≠ gb
theorem StepRel.mk' {w wx : World} {lo o ga gb m : Nat} {f : Bool} {x : Int} {y : Bool} {ws : List Int} {ls : List Bool} (a : Ow u64v wx lo 27 (some ⟨ga, 0, none⟩) m m ws)
  (b : Ow blv wx lo 4 (some ⟨gb, 0, none⟩) m m ls) (c : m ≤ 100000) (d : Blk wx o 44 (mcs (some ⟨ga, 0, none⟩) m m (some ⟨gb, 0, none⟩) m m f)) (e : Blk wx (o + 1) 112 #[.int .u64 x, .bool y])
  (p : Blk wx (w.heap.size + 1 + 1) 44 (mcs none 0 0 none 0 0 false)) (g : Blk wx (w.heap.size + 1 + 1 + 1) 112 #[.int .u64 0, .bool false]) (h : Below w.heap.size w wx) (i : ga ≠ gb) : StepRel w wx lo o ga gb m f x y ws ls := ⟨a, b, c, d, e, p, g, h, i⟩
theorem StepRel.setq {w wx : World} {lo o ga gb m : Nat} {f : Bool} {x : Int} {y : Bool} {ws : List Int} {ls : List Bool} (h : StepRel w wx lo o ga gb m f x y ws ls) (z : Bool) (h1 : ga ≠ o + 1) (h2 : gb ≠ o + 1) (h3 : w.heap.size + 2 < o) : StepRel w (wx.setCell ⟨o + 1, 1, none⟩ (.bool z)) lo o ga gb m f x z ws ls :=
  ⟨h.oa.far h1 _, h.ob.far h2 _, h.hm, h.po.far (by simp) _, h.pq.setCell 1 _, h.pz.far (by simp; omega) _, h.pg.far (by simp; omega) _, h.be.setCell (by simp; omega) _, h.ne⟩
section
variable (A : Option Addr) (n c : Nat) (B : Option Addr) (m d : Nat) (f : Bool) (old new : Int) (ws : List Int) (ls : List Bool) (w : World)
set_option maxHeartbeats 4000000 in
theorem mstep_core (h : Mem w A n c B m d ws ls) (hg : MGood ws ls) (k : Nat) (hk : k < n) (hlk : ls[k]?.getD false = true) (kind : Int) (h1 : 1 ≤ kind) (h3 : kind ≤ 3) (fn : FuncId) (y : Bool) (ws' : List Int)
    (hidx : ∀ W, (Instr.index 127 (.agg #[.nilFunc, .func (.func 79) #[] #[], .func (.func 80) #[] #[], .func (.func 81) #[] #[]]) (.int .i64 kind)).run Try.prog W = .ok (.func (.func fn) #[] #[]) W)
    (hfn : ∀ args W, (callFunc fn args).run Try.prog W = .ok (.enter fn args) W)
    (hC : ∀ W lo ga, Ow u64v W lo 27 (some ⟨ga, 0, none⟩) n n ws → Calls Try.prog fn #[av kind k old new, .pointer (some ⟨ga, k, none⟩)] W fun e W' => e = .returned (.bool y) ∧ W.grownBy W' (some ga) ∧ Ow u64v W' lo 27 (some ⟨ga, 0, none⟩) n n ws') :
    Calls Try.prog 77 #[mv A n c B m d f, av kind k old new] w (MSPost w (0, ((ws', ls, f), (ws[k]?.getD 0, y)))) := by
  obtain ⟨at_, hat⟩ : ∃ x : Int, x = (k : Int) := ⟨_, rfl⟩
  rw [← hat]
  have hx1 := hid hat
  have HIX := hid hidx; have HFN := hid hfn; have HC := hid hC
  clear hat hidx hfn hC
  have hB := below_then (below_then (below_then (below_box w (.cells (mcs A n c B m d f) 44)) (below_box _ (.cells (acs kind at_ old new) 116))) (below_box _ (.cells (mcs none 0 0 none 0 0 false) 44))) (below_box _ (.cells #[.int .u64 0, .bool false] 112))
  have PR := hid ((((Blk.new w 44 (mcs A n c B m d f)).step (below_box _ (.cells (acs kind at_ old new) 116))).step (below_box _ (.cells (mcs none 0 0 none 0 0 false) 44))).step (below_box _ (.cells #[.int .u64 0, .bool false] 112)))
  have PX := hid (((Blk.new2 w 116 (acs kind at_ old new) (.cells (mcs A n c B m d f) 44)).step (below_box _ (.cells (mcs none 0 0 none 0 0 false) 44))).step (below_box _ (.cells #[.int .u64 0, .bool false] 112)))
  have PZ := hid ((Blk.new3 w 44 (mcs none 0 0 none 0 0 false) (.cells (mcs A n c B m d f) 44) (.cells (acs kind at_ old new) 116)).step (below_box _ (.cells #[.int .u64 0, .bool false] 112)))
  have PG := hid (Blk.new4 w 112 #[.int .u64 0, .bool false] (.cells (mcs A n c B m d f) 44) (.cells (acs kind at_ old new) 116) (.cells (mcs none 0 0 none 0 0 false) 44))
  have HR := hid (h.step hB)
  have HB := hid hB
  have hn := h.hn; have hl := hid h.lenx; have hl' := hid h.leny
  obtain ⟨k0, k1, k2, kf⟩ := PR.out.cells3
  clear hB h
  go_enter Try.func77, Try.ntmps77
  go_wp2_with fail
  clear k0 k1 k2 kf
  refine (mcheck_any A n c B m d f ws ls _ HR.out).mono ?_
  rintro e w1 ⟨rfl, hb⟩
  replace PR := hid (PR.out.step hb); replace PX := hid (PX.out.step hb); replace PZ := hid (PZ.out.step hb); replace PG := hid (PG.out.step hb); replace HR := hid (HR.out.step hb)
  replace HB := hid (below_then HB.out hb)
  clear hb
  obtain rfl := hx1.out
  rw [show mcheckC ws ls = 0 from if_pos hg]
  obtain rfl : m = n := by have := hg.1.2.2; have := hl.out; have := hl'.out; omega
  obtain ⟨k0, k1, k2, kf⟩ := PR.out.cells3
  obtain ⟨r0, r1, r2, r3, rf⟩ := PX.out.cells4
  have HLK := hid hlk
  have h1' : ¬ kind < 1 := by omega
  have h3' : ¬ 3 < kind := by omega
  clear hg hlk
  go_wp2_with fail
  clear k0 k1 k2 kf r0 r1 r2 r3 rf
  refine (mown_any A m c B m d f ws ls _ HR.out).mono ?_
  rintro e w2 ⟨ga, gb, rfl, ho, hb⟩
  have hbo := below_then hb (below_box w2 (.cells (mcs (some ⟨ga, 0, none⟩) m m (some ⟨gb, 0, none⟩) m m f) 44))
  have hz4 : w.heap.size + 3 < w1.heap.size := by have := PG.out.lt; omega
  have hap := ho.apart _ _ rfl rfl
  obtain ⟨g, hq, hg1, hg2, _⟩ := ho.oa.at_ 0 (k := 0) (by omega)
  obtain rfl : ga = g := by simpa using hq
  obtain ⟨g', hq', hg3, hg4, _⟩ := ho.ob.at_ false (k := 0) (by omega)
  obtain rfl : gb = g' := by simpa using hq'
  have HGO := hid (⟨⟨hg1, hg2⟩, ⟨hg3, hg4⟩, hap, hz4⟩ : (w1.heap.size ≤ ga ∧ ga < w2.heap.size) ∧ (w1.heap.size ≤ gb ∧ gb < w2.heap.size) ∧ ga ≠ gb ∧ w.heap.size + 3 < w1.heap.size)
  clear hq hq'
  have PZ2 := hid (PZ.out.step hb); have PG2 := hid (PG.out.step hb); have HB2 := hid (below_then HB.out hb); have HO2 := hid (ho.mono (lo' := w.heap.size + 4) (by omega))
  replace HB := hid (below_then HB.out hbo)
  replace PX := hid (PX.out.step hbo); replace PZ := hid (PZ.out.step hbo); replace PG := hid (PG.out.step hbo)
  have HO := hid ((ho.step (below_box w2 (.cells (mcs (some ⟨ga, 0, none⟩) m m (some ⟨gb, 0, none⟩) m m f) 44))).mono (lo' := w.heap.size + 4) (by omega))
  have HPO := hid (Blk.new w2 44 (mcs (some ⟨ga, 0, none⟩) m m (some ⟨gb, 0, none⟩) m m f))
  have hz5 := hid (show w.heap.size + 3 < w2.heap.size by have := hb.size; omega)
  clear hb ho PR HR hbo hap hz4 hg1 hg2 hg3 hg4
  obtain ⟨b0, b1, b2, bf⟩ := HPO.out.cells3
  obtain ⟨r0, r1, r2, r3, rf⟩ := PX.out.cells4
  obtain ⟨z0, z1, z2, zf⟩ := PZ.out.cells3
  obtain ⟨u0, u1, uf⟩ := PG.out.cells2
  obtain ⟨g, hq, _, _, l0, lf⟩ := HO.out.ob.at_ false hk
  obtain rfl : gb = g := by simpa using hq
  obtain ⟨g, hq', _, _, a0, af⟩ := HO.out.oa.at_ 0 hk
  obtain rfl : ga = g := by simpa using hq'
  rw [HLK.out] at l0
  obtain ⟨x, hX⟩ : ∃ x, x = ws[k]?.getD 0 := ⟨_, rfl⟩
  rw [← hX] at a0
  have HX := hid hX
  clear hq hq' hX z0 z1 z2 zf u0 u1 uf
  go_upto_region 11 with fail
  clear b0 b1 b2 bf r0 r1 r2 r3 rf l0 lf a0 af
  have hbg := below_box (w2.alloc (.cells (mcs (some ⟨ga, 0, none⟩) m m (some ⟨gb, 0, none⟩) m m f) 44)) (.cells #[.int .u64 x, .bool false] 112)
  replace PX := hid (PX.out.step hbg); replace PZ := hid (PZ.out.step hbg); replace PG := hid (PG.out.step hbg); replace HO := hid (HO.out.step hbg); replace HPO := hid (HPO.out.step hbg)
  replace HB := hid (below_then HB.out hbg)
  have HPQ := hid (Blk.new2 w2 112 #[.int .u64 x, .bool false] (.cells (mcs (some ⟨ga, 0, none⟩) m m (some ⟨gb, 0, none⟩) m m f) 44))
  clear hbg
  generalize ((w2.alloc (.cells #[.slice (some ⟨ga, 0, none⟩) m m, .slice (some ⟨gb, 0, none⟩) m m, .bool f] 44)).alloc (.cells #[.int .u64 x, .bool false] 112)) = W4 at *
  obtain ⟨r0, r1, r2, r3, rf⟩ := PX.out.cells4
  obtain ⟨⟨g1, g2⟩, ⟨g3, g4⟩, g5, g6⟩ := HGO.out
  have HF : Hid (∀ W, Below W4.heap.size W4 W → Blk W (w.heap.size + 1) 116 (acs kind k old new) ∧ Ow u64v W (w.heap.size + 4) 27 (some ⟨ga, 0, none⟩) m m ws) := hid (fun W hb => ⟨PX.out.step hb, HO.out.oa.below hb⟩)
  have HK : Hid (∀ W5 W6, Below W4.heap.size W4 W5 → W5.grownBy W6 (some ga) → Ow u64v W6 (w.heap.size + 4) 27 (some ⟨ga, 0, none⟩) m m (ws') → StepRel w W6 (w.heap.size + 4) w2.heap.size ga gb m f x false (ws') ls) := hid (fun W5 W6 hb hg ho => StepRel.mk'
    ho ((HO.out.ob.step hb).grown' hg g5) HO.out.hm ((HPO.out.step hb).grown hg (by simp; omega)) ((HPQ.out.step hb).grown hg (by simp; omega)) ((PZ.out.step hb).grown hg (by simp; omega)) ((PG.out.step hb).grown hg (by simp; omega)) ((below_then HB.out hb).grown hg (by have := hb.size; have := HPQ.out.lt; omega) (fun q hq => by simp at hq; omega)) g5)
  clear g1 g2 g3 g4 g5 g6
  go_cut [6] (fun s6 wx => s6 = .int .i64 0 ∧ StepRel w wx (w.heap.size + 4) w2.heap.size ga gb m f x y (ws') ls)
  case first =>
    have hidx := HIX.out; have hfn := HFN.out
    go_region_with (first
      | (go_at_call 78; refine (does_any _).mono ?_; rintro e w5 ⟨rfl, hb⟩; have hb5 := below_then (Below.refl W4.heap.size W4).drew hb; obtain ⟨hX5, hO5⟩ := HF.out w5 hb5; obtain ⟨t0, t1, t2, t3, tf⟩ := hX5.cells4)
      | (with_reducible refine (HC.out _ _ _ hO5).mono ?_; rintro e w6 ⟨rfl, hg6, ho6⟩; have HR6 := hid (HK.out w5 w6 hb5 hg6 ho6); obtain ⟨u0, u1, uf⟩ := HR6.out.pq.cells2))
    all_goals
      go_wp2_with fail
      go_meet
      obtain ⟨⟨g1, g2⟩, ⟨g3, g4⟩, g5, g6⟩ := HGO.out
      exact ⟨rfl, HR6.out.setq y (by omega) (by omega) (by omega)⟩
  case rest =>
    obtain ⟨rfl, hr⟩ := hcut
    have HRr := hid hr
    obtain ⟨o0, o1, o2, of⟩ := hr.po.cells3
    obtain ⟨p0, p1, pf⟩ := hr.pq.cells2
    obtain ⟨z0, z1, z2, zf⟩ := hr.pz.cells3
    obtain ⟨u0, u1, uf⟩ := hr.pg.cells2
    have hz5' := hz5.out
    have far3 : ∀ g cs t, g ≠ w.heap.size + 1 + 1 → Blk wc g t cs → Blk (((wc.setCell ⟨w.heap.size + 1 + 1, 0, none⟩ (.slice (some ⟨ga, 0, none⟩) m m)).setCell ⟨w.heap.size + 1 + 1, 1, none⟩ (.slice (some ⟨gb, 0, none⟩) m m)).setCell ⟨w.heap.size + 1 + 1, 2, none⟩ (.bool f)) g t cs := fun g cs t hg hb => ((hb.far hg _).far hg _).far hg _
    have far2 : ∀ g cs t, g ≠ w.heap.size + 1 + 1 + 1 → Blk wc g t cs → Blk ((wc.setCell ⟨w.heap.size + 1 + 1 + 1, 0, none⟩ (.int .u64 x)).setCell ⟨w.heap.size + 1 + 1 + 1, 1, none⟩ (.bool y)) g t cs := fun g cs t hg hb => (hb.far hg _).far hg _
    obtain ⟨a0, a1, af⟩ := (far3 _ _ _ (by omega) hr.pq).cells2
    obtain ⟨b0, b1, bf⟩ := (far3 _ _ _ (by omega) hr.pg).cells2
    obtain ⟨c0, c1, c2, cf⟩ := (far2 _ _ _ (by omega) hr.po).cells3
    obtain ⟨d0, d1, d2, df⟩ := (far2 _ _ _ (by omega) hr.pz).cells3
    clear hr far3 far2 hz5'
    go_wp2_with fail
    go_region
    all_goals
      go_wp2
      first
        | (obtain ⟨q0, q1, q2, qf⟩ := (((((HRr.out.pz.setCell 0 (.slice (some ⟨ga, 0, none⟩) m m)).setCell 1 (.slice (some ⟨gb, 0, none⟩) m m)).setCell 2 (.bool f)).far (p := ⟨w.heap.size + 1 + 1 + 1, 0, none⟩) (by simp) (.int .u64 x)).far (p := ⟨w.heap.size + 1 + 1 + 1, 1, none⟩) (by simp) (.bool y)).cells3; obtain ⟨t0, t1, tf⟩ := (((((HRr.out.pg.far (p := ⟨w.heap.size + 1 + 1, 0, none⟩) (by simp) (.slice (some ⟨ga, 0, none⟩) m m)).far (p := ⟨w.heap.size + 1 + 1, 1, none⟩) (by simp) (.slice (some ⟨gb, 0, none⟩) m m)).far (p := ⟨w.heap.size + 1 + 1, 2, none⟩) (by simp) (.bool f)).setCell 0 (.int .u64 x)).setCell 1 (.bool y)).cells2; refine bodyPost_ret (v := .tuple #[mv (some ⟨ga, 0, none⟩) m m (some ⟨gb, 0, none⟩) m m f, gv x y, .int .i64 0]) (by simp [results, Try.results77, go_sem, q0, q1, q2, t0, t1]) rfl ?_)
        | (obtain ⟨q0, q1, q2, qf⟩ := (((((HRr.out.pz.far (p := ⟨w.heap.size + 1 + 1 + 1, 0, none⟩) (by simp) (.int .u64 x)).far (p := ⟨w.heap.size + 1 + 1 + 1, 1, none⟩) (by simp) (.bool y)).setCell 0 (.slice (some ⟨ga, 0, none⟩) m m)).setCell 1 (.slice (some ⟨gb, 0, none⟩) m m)).setCell 2 (.bool f)).cells3; obtain ⟨t0, t1, tf⟩ := (((((HRr.out.pg.setCell 0 (.int .u64 x)).setCell 1 (.bool y)).far (p := ⟨w.heap.size + 1 + 1, 0, none⟩) (by simp) (.slice (some ⟨ga, 0, none⟩) m m)).far (p := ⟨w.heap.size + 1 + 1, 1, none⟩) (by simp) (.slice (some ⟨gb, 0, none⟩) m m)).far (p := ⟨w.heap.size + 1 + 1, 2, none⟩) (by simp) (.bool f)).cells2; refine bodyPost_ret (v := .tuple #[mv (some ⟨ga, 0, none⟩) m m (some ⟨gb, 0, none⟩) m m f, gv x y, .int .i64 0]) (by simp [results, Try.results77, go_sem, q0, q1, q2, t0, t1]) rfl ?_)
      rw [← HX.out]
      refine ⟨_, _, _, _, _, _, rfl, ?_, ?_⟩
      · exact Mown.mono (lo := w.heap.size + 4) ⟨((((((HRr.out.oa.setCell (by simp <;> omega) _).setCell (by simp <;> omega) _).setCell (by simp <;> omega) _).setCell (by simp <;> omega) _).setCell (by simp <;> omega) _)).drewN _, ((((((HRr.out.ob.setCell (by simp <;> omega) _).setCell (by simp <;> omega) _).setCell (by simp <;> omega) _).setCell (by simp <;> omega) _).setCell (by simp <;> omega) _)).drewN _, fun a b h1 h2 => by simp at h1 h2; subst h1 h2; exact HRr.out.ne, HRr.out.hm, HRr.out.hm⟩ (by omega)
      · exact below_drewN (((((HRr.out.be.setCell (by simp <;> omega) _).setCell (by simp <;> omega) _).setCell (by simp <;> omega) _).setCell (by simp <;> omega) _).setCell (by simp <;> omega) _) _

end
end Go.Proofs.Ytnkaajkdjbdpaaa
