/- package grace: does, and what Play does with ticks. No condition but sizes. -/
import Derived.Test.YtbibfjncjklclaaGr8
import Derived.Test.YtbibfjncjklclaaSli
namespace Go.Proofs.Ytbibfjncjklclaa
open Go.RowKit
attribute [local go_sem] Oper.semAt_some
abbrev fnv (F : Nat) : Value := .func (.func F) #[] #[]
set_option maxRecDepth 100000 in
set_option maxHeartbeats 2000000 in
theorem does_any (w : World) : Calls Try.prog 44 #[] w fun x w' => x = .returned (.agg #[.nilFunc, fnv 64, fnv 65, fnv 66, fnv 67]) ∧ Below w.heap.size w w' := by
  have P := Blk.new w 79 #[.nilFunc, .nilFunc, .nilFunc, .nilFunc, .nilFunc]
  have HB := hid (below_box w (.cells #[.nilFunc, fnv 64, fnv 65, fnv 66, fnv 67] 79))
  have P2 := hid (Blk.new w 79 #[.nilFunc, fnv 64, fnv 65, fnv 66, fnv 67])
  obtain ⟨y0, y1, y2, y3, y4, yf⟩ := P.cells5
  clear P
  go_enter Try.func44, Try.ntmps44
  go_wp2_with fail
  clear y0 y1 y2 y3 y4 yf
  obtain ⟨z0, z1, z2, z3, z4, zf⟩ := P2.out.cells5
  exact bodyPost_ret (v := .agg #[.nilFunc, fnv 64, fnv 65, fnv 66, fnv 67]) (by simp [results, Try.results44, go_sem, z0, z1, z2, z3, z4]) rfl ⟨rfl, HB.out⟩
def encT (x : Int × Int) (j : Nat) : Value := if j = 0 then .int .i64 x.1 else .int .i64 x.2
/-- ticks, one behind the other: the error, and all that is held -/
def playA (s : St) (g : Gr) (aq : List Int) : List (Int × Int) → Int × St × Gr × List Int
  | [] => (0, s, g, aq)
  | t :: L => if (tickF s g t).1 = 0 then playA (tickF s g t).2.1 (tickF s g t).2.2.1 (aq ++ (tickF s g t).2.2.2) L else ((tickF s g t).1, (0, [], []), zGr, [])
theorem tickF_one (s : St) (g : Gr) (t : Int × Int) : (tickF s g t).2.2.2.length ≤ 1 := by
  unfold tickF
  split
  · simp
  · split
    · split
      · simp
      · split <;> simp
    · split
      · split <;> simp
      · simp
theorem drop_cons {α : Type} {L : List α} {j : Nat} {d : α} (h : j < L.length) : L.drop j = L[j]?.getD d :: L.drop (j + 1) := by
  rw [List.drop_eq_getElem_cons h, List.getElem?_eq_getElem h]; rfl
/-- what the closure of Play may leave behind: all that is held, behind the ticks -/
def PlayYes (s : St) (g : Gr) (L : List (Int × Int)) (l gb : Nat) (w : World) : Prop := (playA s g [] L).1 = 0 ∧ BAt w l gb (playA s g [] L).2.1 (playA s g [] L).2.2.1 (playA s g [] L).2.2.2
def PlayNo (s : St) (g : Gr) (L : List (Int × Int)) (c : Int) (_ : World) : Prop := c ≠ 0 ∧ (playA s g [] L).1 = c
theorem tick_bad {s : St} {g : Gr} {t : Int × Int} (h : ¬ (1 ≤ t.1 ∧ t.1 ≤ 4)) : (tickF s g t).1 = 221 := by
  unfold tickF
  rw [if_neg (by omega), if_neg (by omega), if_neg (by omega)]
theorem Sm.keptP {α : Type} {sz : Nat} {enc : α → Nat → Value} {d : α} {w w' : World} {lo hi n : Nat} {A : Option Addr} {xs : List α} {p : Nat → Prop} (h : Sm sz enc d w lo hi A n xs) (k : GrownP p w w') (hp : ∀ i, i < hi → ¬ p i) (hhi : hi ≤ w.heap.size) : Sm sz enc d w' lo hi A n xs :=
  h.keep fun b o _ e2 => by unfold World.cell?; rw [k.block b (by omega) (hp b e2)]
theorem Sm.tick {w : World} {lo hi b off n : Nat} {xs : List (Int × Int)} (hc : ∀ k, k < n → ∀ j, j < 2 → w.cell? ⟨b, off + k * 2 + j, none⟩ = some (encT (xs[k]?.getD (0, 0)) j)) {k : Nat} (hk : k < n) :
    w.cell? ⟨b, off + k * 2, none⟩ = some (.int .i64 (xs[k]?.getD (0, 0)).1) ∧ w.cell? ⟨b, off + k * 2 + 1, none⟩ = some (.int .i64 (xs[k]?.getD (0, 0)).2) :=
  ⟨by have := hc k hk 0 (by omega); rwa [Nat.add_zero] at this, hc k hk 1 (by omega)⟩
theorem BAt.step {w w' : World} {l gb : Nat} {s : St} {g : Gr} {aq : List Int} (h : BAt w l gb s g aq) (hb : Below w.heap.size w w') : BAt w' l gb s g aq := by
  obtain ⟨c, gd, kd, h1, h2, h3, h4, h5, h6, h7⟩ := h
  exact ⟨c, gd, kd, h1, h2.step hb, h3.step hb, h4.step hb, h5.step hb, h6, h7⟩
theorem tick_enters (w : World) (l gb : Nat) (s : St) (g : Gr) (aq : List Int) (cp : Int) (h : BAt w l gb s g aq) (hb : Both s g) (hl : l ≤ w.heap.size) (_ : aq.length ≤ 1000000) :
    Calls Try.prog 64 #[ptr gb, .int .i64 cp] w (TickPost w l gb s g aq (1, cp)) := tick_reads true _ rfl w l gb s g aq cp h hb hl
theorem tick_leaves (w : World) (l gb : Nat) (s : St) (g : Gr) (aq : List Int) (cp : Int) (h : BAt w l gb s g aq) (hb : Both s g) (hl : l ≤ w.heap.size) (_ : aq.length ≤ 1000000) :
    Calls Try.prog 65 #[ptr gb, .int .i64 cp] w (TickPost w l gb s g aq (2, cp)) := tick_reads false _ rfl w l gb s g aq cp h hb hl
theorem tick_picks' (w : World) (l gb : Nat) (s : St) (g : Gr) (aq : List Int) (cp : Int) (h : BAt w l gb s g aq) (hb : Both s g) (hl : l ≤ w.heap.size) (_ : aq.length ≤ 1000000) :
    Calls Try.prog 67 #[ptr gb, .int .i64 cp] w (TickPost w l gb s g aq (4, cp)) := tick_picks w l gb s g aq cp h hb hl
theorem GrownP.step {q : Nat → Prop} {w a b : World} (h : GrownP q w a) (k : Below a.heap.size a b) : GrownP q w b := h.thenB k h.size
theorem BAt.lo {w : World} {l gb : Nat} {s : St} {g : Gr} {aq : List Int} (h : BAt w l gb s g aq) : l ≤ w.heap.size := by
  obtain ⟨c, gd, kd, h1, h2, h3, h4, h5, h6, h7⟩ := h
  have := h2.lt; omega
set_option maxRecDepth 100000 in
set_option maxHeartbeats 4000000 in
theorem play1_any (w1 : World) (gd gb br bl hi : Nat) (s : St) (g : Gr) (A : Option Addr) (n k : Nat) (B : Option Addr) (m d : Nat) (T : Option Addr) (nt kt : Nat) (L : List (Int × Int)) (kd : Nat)
    (hgd : hi ≤ gd) (hgb : hi ≤ gb) (hne : gd ≠ gb) (hP : Blk w1 gb 76 (bth 0 none 0 0 none 0 0 g (some ⟨gd, 0, none⟩) g.nd.length kd none 0 0)) (hD : Ow blv w1 gd 4 (some ⟨gd, 0, none⟩) g.nd.length kd g.nd)
    (hbr : Blk w1 br 24 (rcs s.1 A n k B m d)) (hbl : Blk w1 bl 28 #[.slice T nt kt]) (hbr1 : br < hi) (hbl1 : bl < hi) (hR : Rds w1 A n k B m d s.2.1 s.2.2) (hT : Sm 2 encT (0, 0) w1 0 hi T nt L) (hb : Both s g) (hnt : nt ≤ 1000000) :
    Calls Try.prog 42 #[ptr gb, ptr br, ptr bl] w1 fun x w2 => GrownP (fun i => min gd gb ≤ i) w1 w2 ∧ ((x = .returned (.tuple #[]) ∧ PlayYes s g L (min gd gb) gb w2) ∨ ∃ c, x = leaves c ∧ PlayNo s g L c w2) := by
  obtain ⟨now, ns, os⟩ := s
  have P := hid hP; have HD := hid hD; have PR := hid hbr; have PL := hid hbl; have HR := hid hR; have HB := hid (Below.refl w1.heap.size w1)
  have HT := hid hT; have HBo := hid hb; have hl := hid hT.len
  have HLT := hid (show hi ≤ gd ∧ hi ≤ gb ∧ gd ≠ gb ∧ br < hi ∧ bl < hi from ⟨hgd, hgb, hne, hbr1, hbl1⟩)
  have HGB := hid hP.lt
  have HGD := hid (show gd < w1.heap.size by obtain ⟨_, cs, h2⟩ := hD.blk _ rfl; exact h2.lt)
  clear hP hD hbr hbl hR hT hb hgd hgb hne hbr1 hbl1
  obtain ⟨lm, hlm⟩ : ∃ l, l = min gd gb := ⟨_, rfl⟩
  rw [← hlm]
  have HLM := hid (show lm ≤ gd ∧ lm ≤ gb ∧ hi ≤ lm by have := HLT.out; omega)
  clear hlm
  go_enter Try.func42, Try.ntmps42
  go_upto_region 0 with fail
  have bx := (Below.refl w1.heap.size w1).drew
  replace P := hid (P.out.step bx); replace HD := hid (HD.out.step bx); replace PR := hid (PR.out.step bx); replace PL := hid (PL.out.step bx); replace HR := hid (HR.out.step bx); replace HB := hid (below_then HB.out bx)
  clear bx
  have hszd := hid (show w1.drew.heap.size = w1.heap.size from rfl)
  refine wp_region_noPanic ?_
  refine wp_region_held_tail 10 (fun W' : World => W'.cell? ⟨br, 0, none⟩ = some (.int .i64 now) ∧ W'.cell? ⟨br, 1, none⟩ = some (.slice A n k) ∧ W'.cell? ⟨br, 2, none⟩ = some (.slice B m d)) #[false, false, false, false, false, false, false, false, false, false, false, false, false] (by kernel_rfl) ⟨PR.out.cells3.1, PR.out.cells3.2.1, PR.out.cells3.2.2.1⟩ (by kernel_rfl) (by kernel_rfl) (fun hS => ?_)
  generalize w1.drew = Wd at *
  refine wpAnyT_take (i := 0) (v := ?_) (by kernel_rfl) (by simp only [List.getElem?_toArray, List.getElem?_cons_succ, List.getElem?_cons_zero]; rfl) (by kernel_rfl) (fun _ _ _ h => h) (Or.inl ⟨by rfl, ?_⟩) hS ?_
  rotate_left
  · intro w' hSw; (try dsimp only at hSw); go_split_ands; go_simp; (try with_reducible rfl)
  (try simp only [Act.put, List.setIfInBounds_toArray, List.set_cons_zero, List.set_cons_succ])
  refine wpAnyT_take (i := 1) (v := ?_) (by kernel_rfl) (by simp only [List.getElem?_toArray, List.getElem?_cons_succ, List.getElem?_cons_zero]; rfl) (by kernel_rfl) (fun _ _ _ h => h) (Or.inl ⟨by rfl, ?_⟩) hS ?_
  rotate_left
  · intro w' hSw; (try dsimp only at hSw); go_split_ands; go_simp; (try with_reducible rfl)
  (try simp only [Act.put, List.setIfInBounds_toArray, List.set_cons_zero, List.set_cons_succ])
  refine wpAnyT_take (i := 2) (v := ?_) (by kernel_rfl) (by simp only [List.getElem?_toArray, List.getElem?_cons_succ, List.getElem?_cons_zero]; rfl) (by kernel_rfl) (fun _ _ _ h => h) (Or.inl ⟨by rfl, ?_⟩) hS ?_
  rotate_left
  · intro w' hSw; (try dsimp only at hSw); go_split_ands; go_simp; (try with_reducible rfl)
  (try simp only [Act.put, List.setIfInBounds_toArray, List.set_cons_zero, List.set_cons_succ])
  refine wpAnyT_take (i := 3) (v := ?_) (by kernel_rfl) (by simp only [List.getElem?_toArray, List.getElem?_cons_succ, List.getElem?_cons_zero]; rfl) (by kernel_rfl) (fun _ _ _ h => h) (Or.inl ⟨by rfl, ?_⟩) hS ?_
  rotate_left
  · intro w' hSw; (try dsimp only at hSw); go_split_ands; go_simp; (try with_reducible rfl)
  (try simp only [Act.put, List.setIfInBounds_toArray, List.set_cons_zero, List.set_cons_succ])
  refine wpAnyT_take (i := 4) (v := ?_) (by kernel_rfl) (by simp only [List.getElem?_toArray, List.getElem?_cons_succ, List.getElem?_cons_zero]; rfl) (by kernel_rfl) (fun _ _ _ h => h) (Or.inl ⟨by rfl, ?_⟩) hS ?_
  rotate_left
  · intro w' hSw; (try dsimp only at hSw); go_split_ands; go_simp; (try with_reducible rfl)
  (try simp only [Act.put, List.setIfInBounds_toArray, List.set_cons_zero, List.set_cons_succ])
  refine wpAnyT_take (i := 6) (v := ?_) (by kernel_rfl) (by simp only [List.getElem?_toArray, List.getElem?_cons_succ, List.getElem?_cons_zero]; rfl) (by kernel_rfl) (fun _ _ _ h => h) (Or.inl ⟨by rfl, ?_⟩) hS ?_
  rotate_left
  · intro w' hSw; (try dsimp only at hSw); go_split_ands; go_simp; (try with_reducible rfl)
  (try simp only [Act.put, List.setIfInBounds_toArray, List.set_cons_zero, List.set_cons_succ])
  refine wpAnyT_take (i := 7) (v := ?_) (by kernel_rfl) (by simp only [List.getElem?_toArray, List.getElem?_cons_succ, List.getElem?_cons_zero]; rfl) (by kernel_rfl) (fun _ _ _ h => h) (Or.inl ⟨by rfl, ?_⟩) hS ?_
  rotate_left
  · intro w' hSw; (try dsimp only at hSw); go_split_ands; go_simp; (try with_reducible rfl)
  (try simp only [Act.put, List.setIfInBounds_toArray, List.set_cons_zero, List.set_cons_succ])
  refine wpAnyT_ready [5] (by kernel_rfl) (by simp) ?_
  refine AllReadyT.cons (by simp only [List.getElem?_toArray, List.getElem?_cons_succ, List.getElem?_cons_zero]; rfl) rfl (fun K hK => ?_) ?_
  · skip
    go_simp
    refine (clone_int A n k 0 ns _ HR.out.hx (by have := HR.out.hn; omega)).mono ?_
    rintro e w5 ⟨A5, c5, rfl, ho, hb⟩
    have hsz0 := hid (show Wd.heap.size ≤ w5.heap.size from hb.size)
    replace P := hid (P.out.step hb); replace HD := hid (HD.out.step hb); replace PR := hid (PR.out.step hb); replace PL := hid (PL.out.step hb); replace HR := hid (HR.out.step hb); replace HB := hid (below_then HB.out hb)
    clear hb
    have O5 := hid ho; have O5b := hid ho; have HZ5 := hid HB.out.size
    go_wp2_with fail
    have hS' : (fun W' : World => W'.cell? ⟨br, 0, none⟩ = some (.int .i64 now) ∧ W'.cell? ⟨br, 1, none⟩ = some (.slice A n k) ∧ W'.cell? ⟨br, 2, none⟩ = some (.slice B m d)) _ := ⟨PR.out.cells3.1, PR.out.cells3.2.1, PR.out.cells3.2.2.1⟩
    refine hK.out _ _ hS' ?_
    clear hK K hS
    have hS := hS'
    clear hS'
    (try simp only [Act.put, List.setIfInBounds_toArray, List.set_cons_zero, List.set_cons_succ])
    refine wpAnyT_ready [8] (by kernel_rfl) (by simp) ?_
    refine AllReadyT.cons (by simp only [List.getElem?_toArray, List.getElem?_cons_succ, List.getElem?_cons_zero]; rfl) rfl (fun K hK => ?_) ?_
    · skip
      go_simp
      refine (clone_int B m d 0 os _ HR.out.hy (by have := HR.out.hm; omega)).mono ?_
      rintro e w8 ⟨A8, c8, rfl, ho, hb⟩
      have hsz1 := hid (show w5.heap.size ≤ w8.heap.size from hb.size)
      replace P := hid (P.out.step hb); replace HD := hid (HD.out.step hb); replace PR := hid (PR.out.step hb); replace PL := hid (PL.out.step hb); replace HR := hid (HR.out.step hb); replace O5 := hid (O5.out.step hb); replace HB := hid (below_then HB.out hb)
      clear hb
      have O8 := hid ho
      go_wp2_with fail
      have hS' : (fun W' : World => W'.cell? ⟨br, 0, none⟩ = some (.int .i64 now) ∧ W'.cell? ⟨br, 1, none⟩ = some (.slice A n k) ∧ W'.cell? ⟨br, 2, none⟩ = some (.slice B m d)) _ := ⟨PR.out.cells3.1, PR.out.cells3.2.1, PR.out.cells3.2.2.1⟩
      refine hK.out _ _ hS' ?_
      clear hK K hS
      have hS := hS'
      clear hS'
      (try simp only [Act.put, List.setIfInBounds_toArray, List.set_cons_zero, List.set_cons_succ])
      refine wpAnyT_take (i := 9) (v := ?_) (by kernel_rfl) (by simp only [List.getElem?_toArray, List.getElem?_cons_succ, List.getElem?_cons_zero]; rfl) (by kernel_rfl) (fun _ _ _ h => h) (Or.inl ⟨by rfl, ?_⟩) hS ?_
      rotate_left
      · intro w' hSw; (try dsimp only at hSw); go_split_ands; go_simp; (try with_reducible rfl)
      (try simp only [Act.put, List.setIfInBounds_toArray, List.set_cons_zero, List.set_cons_succ])
      refine wpAnyT_done (by kernel_rfl) ?_
      simp only [List.drop_succ_cons, List.drop_zero]
      clear hS
      obtain ⟨y00, y01, y02, y03, y04, y05, y06, y07, yf0⟩ := P.out.cells8
      go_wp2_with fail
      refine NoPanic.normal ?_
      clear y00 y01 y02 y03 y04 y05 y06 y07 yf0
      have P1 := hid (show Blk (((w8.setCell ⟨gb, 0, none⟩ (.int .i64 now)).setCell ⟨gb, 1, none⟩ (.slice A5 n c5)).setCell ⟨gb, 2, none⟩ (.slice A8 m c8)) gb 76 (bth now A5 n c5 A8 m c8 g (some ⟨gd, 0, none⟩) g.nd.length kd none 0 0) from ((P.out.setCell 0 _).setCell 1 _).setCell 2 _)
      have HGP := hid ((((GrownP.ofBelow (p := fun i => lm ≤ i) HB.out).set (p := ⟨gb, 0, none⟩) HLM.out.2.1 (.int .i64 now)).set (p := ⟨gb, 1, none⟩) HLM.out.2.1 (.slice A5 n c5)).set (p := ⟨gb, 2, none⟩) HLM.out.2.1 (.slice A8 m c8))
      have HS := hid (show GrownP (fun i => i = gb) w8 (((w8.setCell ⟨gb, 0, none⟩ (.int .i64 now)).setCell ⟨gb, 1, none⟩ (.slice A5 n c5)).setCell ⟨gb, 2, none⟩ (.slice A8 m c8)) from (((GrownP.refl (fun i => i = gb) _).set (p := ⟨gb, 0, none⟩) rfl (.int .i64 now)).set (p := ⟨gb, 1, none⟩) rfl (.slice A5 n c5)).set (p := ⟨gb, 2, none⟩) rfl (.slice A8 m c8))
      have hRo := hid (show Rown (((w8.setCell ⟨gb, 0, none⟩ (.int .i64 now)).setCell ⟨gb, 1, none⟩ (.slice A5 n c5)).setCell ⟨gb, 2, none⟩ (.slice A8 m c8)) lm A5 n c5 A8 m c8 ns os from ⟨(O5.out.keptP HS.out (fun a ha e => by have := (O5.out.blk a ha).1; have := HGB.out; have := hszd.out; omega)).mono (by have := HLM.out; have := HGB.out; have := hszd.out; omega), (O8.out.keptP HS.out (fun a ha e => by have := (O8.out.blk a ha).1; have := HGB.out; have := HZ5.out; omega)).mono (by have := HLM.out; have := HGB.out; have := HZ5.out; omega), fun ga gq h1 h2 e => by subst e; obtain ⟨_, cs5, q5⟩ := O5b.out.blk _ h1; have := q5.lt; have := (O8.out.blk _ h2).1; omega, HR.out.hn, HR.out.hm⟩)
      have hBAt := hid (show BAt (((w8.setCell ⟨gb, 0, none⟩ (.int .i64 now)).setCell ⟨gb, 1, none⟩ (.slice A5 n c5)).setCell ⟨gb, 2, none⟩ (.slice A8 m c8)) lm gb (now, ns, os) g [] from ⟨⟨now, A5, n, c5, A8, m, c8, none, 0, 0⟩, gd, kd, rfl, P1.out, (HD.out.keptP HS.out (fun a ha e => by cases ha; exact HLT.out.2.2.1 e)).mono HLM.out.1, hRo.out, Ow.nil _ _ _, HLM.out.2.1, fun a b _ h => by cases h⟩)
      have hPL := hid (PL.out.keptP HS.out (show bl ≠ gb by have := HLT.out; omega))
      clear P1 HS hRo P PL HR HD PR HB O5 O8 O5b
      generalize ((w8.setCell ⟨gb, 0, none⟩ (.int .i64 now)).setCell ⟨gb, 1, none⟩ (.slice A5 n c5)).setCell ⟨gb, 2, none⟩ (.slice A8 m c8) = W2 at *
      obtain ⟨y00, yf0⟩ := hPL.out.cells1
      have HLW := hid (show hi ≤ w1.heap.size by have := HLT.out; have := HGB.out; omega)
      clear HGB HGD HZ5 hsz0 hsz1 hszd
      go_wp2_with fail
      clear y00 yf0
      go_loopw [5, 20] (fun _ i wr => ∃ (j : Nat) (s : St) (g' : Gr) (aq : List Int), j ≤ nt ∧ i = .int .i64 j ∧ playA (now, ns, os) g [] L = playA s g' aq (L.drop j) ∧ Both s g' ∧ BAt wr lm gb s g' aq ∧ aq.length ≤ j ∧ GrownP (fun i => lm ≤ i) w1 wr) (fun _ i _ => nt - (intOf i).toNat)
      case atStart => exact ⟨0, _, _, _, Nat.zero_le _, rfl, rfl, HBo.out, hBAt.out, Nat.le_refl _, HGP.out⟩
      case round =>
        clear hBAt HGP hPL HBo
        obtain ⟨j, s, g', aq, hj, rfl, h1, h2, h3, h4, h5⟩ := hrel
        have HPE := hid h1; have HBo := hid h2; have HBA := hid h3; have HQL := hid h4; have HGP := hid h5
        clear h1 h2 h3 h4 h5
        by_cases hjn : j < nt
        rotate_left
        · obtain rfl : j = nt := by omega
          have hnn : ¬ ((j : Int) < (j : Int)) := by omega
          have hpe := HPE.out
          rw [List.drop_eq_nil_of_le (by rw [hl.out]; exact Nat.le_refl _)] at hpe
          have HPE2 := hid (show playA (now, ns, os) g [] L = (0, s, g', aq) from hpe)
          clear hpe HPE
          go_wp2
          go_end0
          refine ⟨HGP.out, .inl ⟨rfl, ?_⟩⟩
          unfold PlayYes
          rw [HPE2.out]
          exact ⟨rfl, HBA.out⟩
        have HTW := hid (HT.out.keptP HGP.out (fun i hi h => by have := HLM.out; omega) HLW.out)
        obtain ⟨bT, oT, rfl, _, _, hc⟩ := HTW.out.row (by omega)
        obtain ⟨f0, f1⟩ := Sm.tick (lo := 0) (hi := hi) hc hjn
        obtain ⟨x, hx⟩ : ∃ x, x = L[j]?.getD (0, 0) := ⟨_, rfl⟩
        rw [← hx] at f0 f1
        have HPX := hid (show playA (now, ns, os) g [] L = playA s g' aq (x :: L.drop (j + 1)) by rw [HPE.out, drop_cons (d := (0, 0)) (by rw [hl.out]; exact hjn), ← hx])
        clear hx hc HTW HPE
        obtain ⟨tk, tc⟩ := x
        have hji : (j : Int) < (nt : Int) := by omega
        dsimp only at f0 f1
        have bx := below_box wr (.cells #[.int .i64 tk, .int .i64 tc] 34)
        have PT := hid (Blk.new wr 34 #[.int .i64 tk, .int .i64 tc])
        have HBA2 := hid (HBA.out.step bx)
        have HGP2 := hid (HGP.out.thenB bx HGP.out.size)
        clear bx HBA HGP
        go_upto_region 4 with fail
        clear f0 f1
        generalize wr.alloc (.cells #[.int .i64 tk, .int .i64 tc] 34) = W3 at *
        by_cases hk : 1 ≤ tk ∧ tk ≤ 4
        rotate_left
        ·skip
         have HBAD := hid (show (playA (now, ns, os) g [] L).1 = 221 by rw [HPX.out]; unfold playA; rw [if_neg (by rw [tick_bad hk]; decide)]; exact tick_bad hk)
         by_cases hk1 : 1 ≤ tk
         ·skip
          have d1 : decide (1 ≤ tk) = true := decide_eq_true hk1
          have d1' : decide (tk ≥ 1) = true := decide_eq_true hk1
          have d2 : decide (tk ≤ 4) = false := decide_eq_false (by omega)
          clear hk hk1
          obtain ⟨y00, y01, yf0⟩ := PT.out.cells2
          go_wp2_with fail
          refine (need_no 221 _).mono ?_
          rintro e W4 ⟨rfl, rfl⟩
          unfold leaves
          go_wp2_with fail
          exact ⟨rfl, HGP2.out, .inr ⟨221, rfl, by decide, HBAD.out⟩⟩
         ·skip
          have d1 : decide (1 ≤ tk) = false := decide_eq_false hk1
          have d1' : decide (tk ≥ 1) = false := decide_eq_false hk1
          clear hk hk1
          obtain ⟨y00, y01, yf0⟩ := PT.out.cells2
          go_wp2_with fail
          refine (need_no 221 _).mono ?_
          rintro e W4 ⟨rfl, rfl⟩
          unfold leaves
          go_wp2_with fail
          exact ⟨rfl, HGP2.out, .inr ⟨221, rfl, by decide, HBAD.out⟩⟩
        have d1 : decide (1 ≤ tk) = true := decide_eq_true hk.1
        have d1' : decide (tk ≥ 1) = true := decide_eq_true hk.1
        have d2 : decide (tk ≤ 4) = true := decide_eq_true hk.2
        obtain ⟨y00, y01, yf0⟩ := PT.out.cells2
        go_wp2_with fail
        refine (need_yes 221 _).mono ?_
        rintro e W4 ⟨rfl, rfl⟩
        clear y00 y01 yf0 d1 d1' d2
        have hk4 : tk = 1 ∨ tk = 2 ∨ tk = 3 ∨ tk = 4 := by omega
        clear hk
        go_upto_region 5 with fail
        rcases hk4 with rfl | rfl | rfl | rfl
        ·skip
         have en := enters_of Try.func64 (by kernel_rfl) rfl
         have hix : ∀ w : World, (Instr.index 79 (.agg #[.nilFunc, fnv 64, fnv 65, fnv 66, fnv 67]) (.int .i64 1)).run Try.prog w = .ok (fnv 64) w := fun _ => by kernel_rfl
         have bx := (Below.refl W4.heap.size W4).drew
         replace PT := hid (PT.out.step bx); replace HBA2 := hid (HBA2.out.step bx); replace HGP2 := hid (HGP2.out.step bx)
         clear bx
         have hszd := hid (show W4.drew.heap.size = W4.heap.size from rfl)
         refine wp_region_qp ?_
         refine wp_region_held_tail 7 (fun W' : World => W'.cell? ⟨wr.heap.size, 0, none⟩ = some (.int .i64 1) ∧ W'.cell? ⟨wr.heap.size, 1, none⟩ = some (.int .i64 tc)) #[false, false, false, false, false, false, false, false] (by kernel_rfl) ⟨PT.out.cells2.1, PT.out.cells2.2.1⟩ (by kernel_rfl) (by kernel_rfl) (fun hS => ?_)
         generalize W4.drew = Wd at *
         refine wpAnyT_take (i := 1) (v := ?_) (by kernel_rfl) (by simp only [List.getElem?_toArray, List.getElem?_cons_succ, List.getElem?_cons_zero]; rfl) (by kernel_rfl) (fun _ _ _ h => QP.put h) (Or.inl ⟨by rfl, ?_⟩) hS ?_
         rotate_left
         · intro w' hSw; (try dsimp only at hSw); go_split_ands; go_simp; (try with_reducible rfl)
         (try simp only [Act.put, List.setIfInBounds_toArray, List.set_cons_zero, List.set_cons_succ])
         refine wpAnyT_take (i := 2) (v := ?_) (by kernel_rfl) (by simp only [List.getElem?_toArray, List.getElem?_cons_succ, List.getElem?_cons_zero]; rfl) (by kernel_rfl) (fun _ _ _ h => QP.put h) (Or.inl ⟨by rfl, ?_⟩) hS ?_
         rotate_left
         · intro w' hSw; (try dsimp only at hSw); go_split_ands; go_simp; (try with_reducible rfl)
         (try simp only [Act.put, List.setIfInBounds_toArray, List.set_cons_zero, List.set_cons_succ])
         refine wpAnyT_take (i := 4) (v := ?_) (by kernel_rfl) (by simp only [List.getElem?_toArray, List.getElem?_cons_succ, List.getElem?_cons_zero]; rfl) (by kernel_rfl) (fun _ _ _ h => QP.put h) (Or.inl ⟨by rfl, ?_⟩) hS ?_
         rotate_left
         · intro w' hSw; (try dsimp only at hSw); go_split_ands; go_simp; (try with_reducible rfl)
         (try simp only [Act.put, List.setIfInBounds_toArray, List.set_cons_zero, List.set_cons_succ])
         refine wpAnyT_take (i := 5) (v := ?_) (by kernel_rfl) (by simp only [List.getElem?_toArray, List.getElem?_cons_succ, List.getElem?_cons_zero]; rfl) (by kernel_rfl) (fun _ _ _ h => QP.put h) (Or.inl ⟨by rfl, ?_⟩) hS ?_
         rotate_left
         · intro w' hSw; (try dsimp only at hSw); go_split_ands; go_simp; (try with_reducible rfl)
         (try simp only [Act.put, List.setIfInBounds_toArray, List.set_cons_zero, List.set_cons_succ])
         refine wpAnyT_take (i := 6) (v := ?_) (by kernel_rfl) (by simp only [List.getElem?_toArray, List.getElem?_cons_succ, List.getElem?_cons_zero]; rfl) (by kernel_rfl) (fun _ _ _ h => QP.put h) (Or.inl ⟨by rfl, ?_⟩) hS ?_
         rotate_left
         · intro w' hSw; (try dsimp only at hSw); go_split_ands; go_simp; (try with_reducible rfl)
         (try simp only [Act.put, List.setIfInBounds_toArray, List.set_cons_zero, List.set_cons_succ])
         refine wpAnyT_ready [0] (by kernel_rfl) (by simp) ?_
         refine AllReadyT.cons (by simp only [List.getElem?_toArray, List.getElem?_cons_succ, List.getElem?_cons_zero]; rfl) rfl (fun K hK => ?_) ?_
         · skip
           go_simp
           refine (does_any _).mono ?_
           rintro e w50 ⟨rfl, hb⟩
           have hsz0 := hid (show Wd.heap.size ≤ w50.heap.size from hb.size)
           replace PT := hid (PT.out.step hb); replace HBA2 := hid (HBA2.out.step hb); replace HGP2 := hid (HGP2.out.step hb)
           clear hb
           go_wp2_with fail
           have hS' : (fun W' : World => W'.cell? ⟨wr.heap.size, 0, none⟩ = some (.int .i64 1) ∧ W'.cell? ⟨wr.heap.size, 1, none⟩ = some (.int .i64 tc)) _ := ⟨PT.out.cells2.1, PT.out.cells2.2.1⟩
           refine hK.out _ _ hS' ?_
           clear hK K hS
           have hS := hS'
           clear hS'
           (try simp only [Act.put, List.setIfInBounds_toArray, List.set_cons_zero, List.set_cons_succ])
           refine wpAnyT_take (i := 3) (v := ?_) (by kernel_rfl) (by simp only [List.getElem?_toArray, List.getElem?_cons_succ, List.getElem?_cons_zero]; rfl) (by kernel_rfl) (fun _ _ _ h => QP.put h) (Or.inl ⟨by rfl, ?_⟩) hS ?_
           rotate_left
           · intro w' hSw; (try dsimp only at hSw); go_split_ands; go_simp; (try with_reducible rfl)
           (try simp only [Act.put, List.setIfInBounds_toArray, List.set_cons_zero, List.set_cons_succ])
           refine wpAnyT_done (by kernel_rfl) ?_
           simp only [List.drop_succ_cons, List.drop_zero]
           clear hS
           go_wp2_with fail
           refine (tick_enters _ lm gb s g' aq tc HBA2.out HBo.out HBA2.out.lo (by have := HQL.out; omega)).mono ?_
           rintro e W6 ⟨hg6, ⟨h0, rfl, hba⟩ | ⟨h0, rfl⟩⟩
           ·have HG6 := hid (HGP2.out.trans hg6)
            have HBA3 := hid hba
            have HPY := hid (show playA (now, ns, os) g [] L = playA (tickF s g' (1, tc)).2.1 (tickF s g' (1, tc)).2.2.1 (aq ++ (tickF s g' (1, tc)).2.2.2) (L.drop (j + 1)) by rw [HPX.out]; exact if_pos h0)
            have HBo2 := hid (both_tick HBo.out h0)
            have HQ2 := hid (show (aq ++ (tickF s g' (1, tc)).2.2.2).length ≤ j + 1 by rw [List.length_append]; have := tickF_one s g' (1, tc); have := HQL.out; omega)
            clear hg6 hba h0 HBA2 HBo HPX HQL HGP2
            go_wp2_with fail
            refine QP.normal ?_
            go_wp2
            go_roundw
            case rel => exact ⟨j + 1, _, _, _, by omega, by go_num, HPY.out, HBo2.out, HBA3.out, HQ2.out, HG6.out⟩
            case measure => simp [intOf]; omega
           ·have HG6 := hid (HGP2.out.trans hg6)
            have HPN := hid (show (playA (now, ns, os) g [] L).1 = (tickF s g' (1, tc)).1 by rw [HPX.out]; unfold playA; rw [if_neg h0])
            have H0 := hid h0
            clear hg6 h0
            unfold leaves
            go_wp2_with fail
            intro tm
            have hfin : ({ tmps := tm, defers := [] } : Act).defers = [] ∧ (GrownP (fun i => lm ≤ i) w1 W6 ∧ ((leaves (tickF s g' (1, tc)).1 = .returned (.tuple #[]) ∧ PlayYes (now, ns, os) g L lm gb W6) ∨ ∃ c, leaves (tickF s g' (1, tc)).1 = leaves c ∧ PlayNo (now, ns, os) g L c W6)) := ⟨rfl, HG6.out, .inr ⟨_, rfl, H0.out, HPN.out⟩⟩
            exact hfin
         exact AllReadyT.nil
        ·skip
         have en := enters_of Try.func65 (by kernel_rfl) rfl
         have hix : ∀ w : World, (Instr.index 79 (.agg #[.nilFunc, fnv 64, fnv 65, fnv 66, fnv 67]) (.int .i64 2)).run Try.prog w = .ok (fnv 65) w := fun _ => by kernel_rfl
         have bx := (Below.refl W4.heap.size W4).drew
         replace PT := hid (PT.out.step bx); replace HBA2 := hid (HBA2.out.step bx); replace HGP2 := hid (HGP2.out.step bx)
         clear bx
         have hszd := hid (show W4.drew.heap.size = W4.heap.size from rfl)
         refine wp_region_qp ?_
         refine wp_region_held_tail 7 (fun W' : World => W'.cell? ⟨wr.heap.size, 0, none⟩ = some (.int .i64 2) ∧ W'.cell? ⟨wr.heap.size, 1, none⟩ = some (.int .i64 tc)) #[false, false, false, false, false, false, false, false] (by kernel_rfl) ⟨PT.out.cells2.1, PT.out.cells2.2.1⟩ (by kernel_rfl) (by kernel_rfl) (fun hS => ?_)
         generalize W4.drew = Wd at *
         refine wpAnyT_take (i := 1) (v := ?_) (by kernel_rfl) (by simp only [List.getElem?_toArray, List.getElem?_cons_succ, List.getElem?_cons_zero]; rfl) (by kernel_rfl) (fun _ _ _ h => QP.put h) (Or.inl ⟨by rfl, ?_⟩) hS ?_
         rotate_left
         · intro w' hSw; (try dsimp only at hSw); go_split_ands; go_simp; (try with_reducible rfl)
         (try simp only [Act.put, List.setIfInBounds_toArray, List.set_cons_zero, List.set_cons_succ])
         refine wpAnyT_take (i := 2) (v := ?_) (by kernel_rfl) (by simp only [List.getElem?_toArray, List.getElem?_cons_succ, List.getElem?_cons_zero]; rfl) (by kernel_rfl) (fun _ _ _ h => QP.put h) (Or.inl ⟨by rfl, ?_⟩) hS ?_
         rotate_left
         · intro w' hSw; (try dsimp only at hSw); go_split_ands; go_simp; (try with_reducible rfl)
         (try simp only [Act.put, List.setIfInBounds_toArray, List.set_cons_zero, List.set_cons_succ])
         refine wpAnyT_take (i := 4) (v := ?_) (by kernel_rfl) (by simp only [List.getElem?_toArray, List.getElem?_cons_succ, List.getElem?_cons_zero]; rfl) (by kernel_rfl) (fun _ _ _ h => QP.put h) (Or.inl ⟨by rfl, ?_⟩) hS ?_
         rotate_left
         · intro w' hSw; (try dsimp only at hSw); go_split_ands; go_simp; (try with_reducible rfl)
         (try simp only [Act.put, List.setIfInBounds_toArray, List.set_cons_zero, List.set_cons_succ])
         refine wpAnyT_take (i := 5) (v := ?_) (by kernel_rfl) (by simp only [List.getElem?_toArray, List.getElem?_cons_succ, List.getElem?_cons_zero]; rfl) (by kernel_rfl) (fun _ _ _ h => QP.put h) (Or.inl ⟨by rfl, ?_⟩) hS ?_
         rotate_left
         · intro w' hSw; (try dsimp only at hSw); go_split_ands; go_simp; (try with_reducible rfl)
         (try simp only [Act.put, List.setIfInBounds_toArray, List.set_cons_zero, List.set_cons_succ])
         refine wpAnyT_take (i := 6) (v := ?_) (by kernel_rfl) (by simp only [List.getElem?_toArray, List.getElem?_cons_succ, List.getElem?_cons_zero]; rfl) (by kernel_rfl) (fun _ _ _ h => QP.put h) (Or.inl ⟨by rfl, ?_⟩) hS ?_
         rotate_left
         · intro w' hSw; (try dsimp only at hSw); go_split_ands; go_simp; (try with_reducible rfl)
         (try simp only [Act.put, List.setIfInBounds_toArray, List.set_cons_zero, List.set_cons_succ])
         refine wpAnyT_ready [0] (by kernel_rfl) (by simp) ?_
         refine AllReadyT.cons (by simp only [List.getElem?_toArray, List.getElem?_cons_succ, List.getElem?_cons_zero]; rfl) rfl (fun K hK => ?_) ?_
         · skip
           go_simp
           refine (does_any _).mono ?_
           rintro e w50 ⟨rfl, hb⟩
           have hsz0 := hid (show Wd.heap.size ≤ w50.heap.size from hb.size)
           replace PT := hid (PT.out.step hb); replace HBA2 := hid (HBA2.out.step hb); replace HGP2 := hid (HGP2.out.step hb)
           clear hb
           go_wp2_with fail
           have hS' : (fun W' : World => W'.cell? ⟨wr.heap.size, 0, none⟩ = some (.int .i64 2) ∧ W'.cell? ⟨wr.heap.size, 1, none⟩ = some (.int .i64 tc)) _ := ⟨PT.out.cells2.1, PT.out.cells2.2.1⟩
           refine hK.out _ _ hS' ?_
           clear hK K hS
           have hS := hS'
           clear hS'
           (try simp only [Act.put, List.setIfInBounds_toArray, List.set_cons_zero, List.set_cons_succ])
           refine wpAnyT_take (i := 3) (v := ?_) (by kernel_rfl) (by simp only [List.getElem?_toArray, List.getElem?_cons_succ, List.getElem?_cons_zero]; rfl) (by kernel_rfl) (fun _ _ _ h => QP.put h) (Or.inl ⟨by rfl, ?_⟩) hS ?_
           rotate_left
           · intro w' hSw; (try dsimp only at hSw); go_split_ands; go_simp; (try with_reducible rfl)
           (try simp only [Act.put, List.setIfInBounds_toArray, List.set_cons_zero, List.set_cons_succ])
           refine wpAnyT_done (by kernel_rfl) ?_
           simp only [List.drop_succ_cons, List.drop_zero]
           clear hS
           go_wp2_with fail
           refine (tick_leaves _ lm gb s g' aq tc HBA2.out HBo.out HBA2.out.lo (by have := HQL.out; omega)).mono ?_
           rintro e W6 ⟨hg6, ⟨h0, rfl, hba⟩ | ⟨h0, rfl⟩⟩
           ·have HG6 := hid (HGP2.out.trans hg6)
            have HBA3 := hid hba
            have HPY := hid (show playA (now, ns, os) g [] L = playA (tickF s g' (2, tc)).2.1 (tickF s g' (2, tc)).2.2.1 (aq ++ (tickF s g' (2, tc)).2.2.2) (L.drop (j + 1)) by rw [HPX.out]; exact if_pos h0)
            have HBo2 := hid (both_tick HBo.out h0)
            have HQ2 := hid (show (aq ++ (tickF s g' (2, tc)).2.2.2).length ≤ j + 1 by rw [List.length_append]; have := tickF_one s g' (2, tc); have := HQL.out; omega)
            clear hg6 hba h0 HBA2 HBo HPX HQL HGP2
            go_wp2_with fail
            refine QP.normal ?_
            go_wp2
            go_roundw
            case rel => exact ⟨j + 1, _, _, _, by omega, by go_num, HPY.out, HBo2.out, HBA3.out, HQ2.out, HG6.out⟩
            case measure => simp [intOf]; omega
           ·have HG6 := hid (HGP2.out.trans hg6)
            have HPN := hid (show (playA (now, ns, os) g [] L).1 = (tickF s g' (2, tc)).1 by rw [HPX.out]; unfold playA; rw [if_neg h0])
            have H0 := hid h0
            clear hg6 h0
            unfold leaves
            go_wp2_with fail
            intro tm
            have hfin : ({ tmps := tm, defers := [] } : Act).defers = [] ∧ (GrownP (fun i => lm ≤ i) w1 W6 ∧ ((leaves (tickF s g' (2, tc)).1 = .returned (.tuple #[]) ∧ PlayYes (now, ns, os) g L lm gb W6) ∨ ∃ c, leaves (tickF s g' (2, tc)).1 = leaves c ∧ PlayNo (now, ns, os) g L c W6)) := ⟨rfl, HG6.out, .inr ⟨_, rfl, H0.out, HPN.out⟩⟩
            exact hfin
         exact AllReadyT.nil
        ·skip
         have en := enters_of Try.func66 (by kernel_rfl) rfl
         have hix : ∀ w : World, (Instr.index 79 (.agg #[.nilFunc, fnv 64, fnv 65, fnv 66, fnv 67]) (.int .i64 3)).run Try.prog w = .ok (fnv 66) w := fun _ => by kernel_rfl
         have bx := (Below.refl W4.heap.size W4).drew
         replace PT := hid (PT.out.step bx); replace HBA2 := hid (HBA2.out.step bx); replace HGP2 := hid (HGP2.out.step bx)
         clear bx
         have hszd := hid (show W4.drew.heap.size = W4.heap.size from rfl)
         refine wp_region_qp ?_
         refine wp_region_held_tail 7 (fun W' : World => W'.cell? ⟨wr.heap.size, 0, none⟩ = some (.int .i64 3) ∧ W'.cell? ⟨wr.heap.size, 1, none⟩ = some (.int .i64 tc)) #[false, false, false, false, false, false, false, false] (by kernel_rfl) ⟨PT.out.cells2.1, PT.out.cells2.2.1⟩ (by kernel_rfl) (by kernel_rfl) (fun hS => ?_)
         generalize W4.drew = Wd at *
         refine wpAnyT_take (i := 1) (v := ?_) (by kernel_rfl) (by simp only [List.getElem?_toArray, List.getElem?_cons_succ, List.getElem?_cons_zero]; rfl) (by kernel_rfl) (fun _ _ _ h => QP.put h) (Or.inl ⟨by rfl, ?_⟩) hS ?_
         rotate_left
         · intro w' hSw; (try dsimp only at hSw); go_split_ands; go_simp; (try with_reducible rfl)
         (try simp only [Act.put, List.setIfInBounds_toArray, List.set_cons_zero, List.set_cons_succ])
         refine wpAnyT_take (i := 2) (v := ?_) (by kernel_rfl) (by simp only [List.getElem?_toArray, List.getElem?_cons_succ, List.getElem?_cons_zero]; rfl) (by kernel_rfl) (fun _ _ _ h => QP.put h) (Or.inl ⟨by rfl, ?_⟩) hS ?_
         rotate_left
         · intro w' hSw; (try dsimp only at hSw); go_split_ands; go_simp; (try with_reducible rfl)
         (try simp only [Act.put, List.setIfInBounds_toArray, List.set_cons_zero, List.set_cons_succ])
         refine wpAnyT_take (i := 4) (v := ?_) (by kernel_rfl) (by simp only [List.getElem?_toArray, List.getElem?_cons_succ, List.getElem?_cons_zero]; rfl) (by kernel_rfl) (fun _ _ _ h => QP.put h) (Or.inl ⟨by rfl, ?_⟩) hS ?_
         rotate_left
         · intro w' hSw; (try dsimp only at hSw); go_split_ands; go_simp; (try with_reducible rfl)
         (try simp only [Act.put, List.setIfInBounds_toArray, List.set_cons_zero, List.set_cons_succ])
         refine wpAnyT_take (i := 5) (v := ?_) (by kernel_rfl) (by simp only [List.getElem?_toArray, List.getElem?_cons_succ, List.getElem?_cons_zero]; rfl) (by kernel_rfl) (fun _ _ _ h => QP.put h) (Or.inl ⟨by rfl, ?_⟩) hS ?_
         rotate_left
         · intro w' hSw; (try dsimp only at hSw); go_split_ands; go_simp; (try with_reducible rfl)
         (try simp only [Act.put, List.setIfInBounds_toArray, List.set_cons_zero, List.set_cons_succ])
         refine wpAnyT_take (i := 6) (v := ?_) (by kernel_rfl) (by simp only [List.getElem?_toArray, List.getElem?_cons_succ, List.getElem?_cons_zero]; rfl) (by kernel_rfl) (fun _ _ _ h => QP.put h) (Or.inl ⟨by rfl, ?_⟩) hS ?_
         rotate_left
         · intro w' hSw; (try dsimp only at hSw); go_split_ands; go_simp; (try with_reducible rfl)
         (try simp only [Act.put, List.setIfInBounds_toArray, List.set_cons_zero, List.set_cons_succ])
         refine wpAnyT_ready [0] (by kernel_rfl) (by simp) ?_
         refine AllReadyT.cons (by simp only [List.getElem?_toArray, List.getElem?_cons_succ, List.getElem?_cons_zero]; rfl) rfl (fun K hK => ?_) ?_
         · skip
           go_simp
           refine (does_any _).mono ?_
           rintro e w50 ⟨rfl, hb⟩
           have hsz0 := hid (show Wd.heap.size ≤ w50.heap.size from hb.size)
           replace PT := hid (PT.out.step hb); replace HBA2 := hid (HBA2.out.step hb); replace HGP2 := hid (HGP2.out.step hb)
           clear hb
           go_wp2_with fail
           have hS' : (fun W' : World => W'.cell? ⟨wr.heap.size, 0, none⟩ = some (.int .i64 3) ∧ W'.cell? ⟨wr.heap.size, 1, none⟩ = some (.int .i64 tc)) _ := ⟨PT.out.cells2.1, PT.out.cells2.2.1⟩
           refine hK.out _ _ hS' ?_
           clear hK K hS
           have hS := hS'
           clear hS'
           (try simp only [Act.put, List.setIfInBounds_toArray, List.set_cons_zero, List.set_cons_succ])
           refine wpAnyT_take (i := 3) (v := ?_) (by kernel_rfl) (by simp only [List.getElem?_toArray, List.getElem?_cons_succ, List.getElem?_cons_zero]; rfl) (by kernel_rfl) (fun _ _ _ h => QP.put h) (Or.inl ⟨by rfl, ?_⟩) hS ?_
           rotate_left
           · intro w' hSw; (try dsimp only at hSw); go_split_ands; go_simp; (try with_reducible rfl)
           (try simp only [Act.put, List.setIfInBounds_toArray, List.set_cons_zero, List.set_cons_succ])
           refine wpAnyT_done (by kernel_rfl) ?_
           simp only [List.drop_succ_cons, List.drop_zero]
           clear hS
           go_wp2_with fail
           refine (tick_asks _ lm gb s g' aq tc HBA2.out HBo.out HBA2.out.lo (by have := HQL.out; omega)).mono ?_
           rintro e W6 ⟨hg6, ⟨h0, rfl, hba⟩ | ⟨h0, rfl⟩⟩
           ·have HG6 := hid (HGP2.out.trans hg6)
            have HBA3 := hid hba
            have HPY := hid (show playA (now, ns, os) g [] L = playA (tickF s g' (3, tc)).2.1 (tickF s g' (3, tc)).2.2.1 (aq ++ (tickF s g' (3, tc)).2.2.2) (L.drop (j + 1)) by rw [HPX.out]; exact if_pos h0)
            have HBo2 := hid (both_tick HBo.out h0)
            have HQ2 := hid (show (aq ++ (tickF s g' (3, tc)).2.2.2).length ≤ j + 1 by rw [List.length_append]; have := tickF_one s g' (3, tc); have := HQL.out; omega)
            clear hg6 hba h0 HBA2 HBo HPX HQL HGP2
            go_wp2_with fail
            refine QP.normal ?_
            go_wp2
            go_roundw
            case rel => exact ⟨j + 1, _, _, _, by omega, by go_num, HPY.out, HBo2.out, HBA3.out, HQ2.out, HG6.out⟩
            case measure => simp [intOf]; omega
           ·have HG6 := hid (HGP2.out.trans hg6)
            have HPN := hid (show (playA (now, ns, os) g [] L).1 = (tickF s g' (3, tc)).1 by rw [HPX.out]; unfold playA; rw [if_neg h0])
            have H0 := hid h0
            clear hg6 h0
            unfold leaves
            go_wp2_with fail
            intro tm
            have hfin : ({ tmps := tm, defers := [] } : Act).defers = [] ∧ (GrownP (fun i => lm ≤ i) w1 W6 ∧ ((leaves (tickF s g' (3, tc)).1 = .returned (.tuple #[]) ∧ PlayYes (now, ns, os) g L lm gb W6) ∨ ∃ c, leaves (tickF s g' (3, tc)).1 = leaves c ∧ PlayNo (now, ns, os) g L c W6)) := ⟨rfl, HG6.out, .inr ⟨_, rfl, H0.out, HPN.out⟩⟩
            exact hfin
         exact AllReadyT.nil
        ·skip
         have en := enters_of Try.func67 (by kernel_rfl) rfl
         have hix : ∀ w : World, (Instr.index 79 (.agg #[.nilFunc, fnv 64, fnv 65, fnv 66, fnv 67]) (.int .i64 4)).run Try.prog w = .ok (fnv 67) w := fun _ => by kernel_rfl
         have bx := (Below.refl W4.heap.size W4).drew
         replace PT := hid (PT.out.step bx); replace HBA2 := hid (HBA2.out.step bx); replace HGP2 := hid (HGP2.out.step bx)
         clear bx
         have hszd := hid (show W4.drew.heap.size = W4.heap.size from rfl)
         refine wp_region_qp ?_
         refine wp_region_held_tail 7 (fun W' : World => W'.cell? ⟨wr.heap.size, 0, none⟩ = some (.int .i64 4) ∧ W'.cell? ⟨wr.heap.size, 1, none⟩ = some (.int .i64 tc)) #[false, false, false, false, false, false, false, false] (by kernel_rfl) ⟨PT.out.cells2.1, PT.out.cells2.2.1⟩ (by kernel_rfl) (by kernel_rfl) (fun hS => ?_)
         generalize W4.drew = Wd at *
         refine wpAnyT_take (i := 1) (v := ?_) (by kernel_rfl) (by simp only [List.getElem?_toArray, List.getElem?_cons_succ, List.getElem?_cons_zero]; rfl) (by kernel_rfl) (fun _ _ _ h => QP.put h) (Or.inl ⟨by rfl, ?_⟩) hS ?_
         rotate_left
         · intro w' hSw; (try dsimp only at hSw); go_split_ands; go_simp; (try with_reducible rfl)
         (try simp only [Act.put, List.setIfInBounds_toArray, List.set_cons_zero, List.set_cons_succ])
         refine wpAnyT_take (i := 2) (v := ?_) (by kernel_rfl) (by simp only [List.getElem?_toArray, List.getElem?_cons_succ, List.getElem?_cons_zero]; rfl) (by kernel_rfl) (fun _ _ _ h => QP.put h) (Or.inl ⟨by rfl, ?_⟩) hS ?_
         rotate_left
         · intro w' hSw; (try dsimp only at hSw); go_split_ands; go_simp; (try with_reducible rfl)
         (try simp only [Act.put, List.setIfInBounds_toArray, List.set_cons_zero, List.set_cons_succ])
         refine wpAnyT_take (i := 4) (v := ?_) (by kernel_rfl) (by simp only [List.getElem?_toArray, List.getElem?_cons_succ, List.getElem?_cons_zero]; rfl) (by kernel_rfl) (fun _ _ _ h => QP.put h) (Or.inl ⟨by rfl, ?_⟩) hS ?_
         rotate_left
         · intro w' hSw; (try dsimp only at hSw); go_split_ands; go_simp; (try with_reducible rfl)
         (try simp only [Act.put, List.setIfInBounds_toArray, List.set_cons_zero, List.set_cons_succ])
         refine wpAnyT_take (i := 5) (v := ?_) (by kernel_rfl) (by simp only [List.getElem?_toArray, List.getElem?_cons_succ, List.getElem?_cons_zero]; rfl) (by kernel_rfl) (fun _ _ _ h => QP.put h) (Or.inl ⟨by rfl, ?_⟩) hS ?_
         rotate_left
         · intro w' hSw; (try dsimp only at hSw); go_split_ands; go_simp; (try with_reducible rfl)
         (try simp only [Act.put, List.setIfInBounds_toArray, List.set_cons_zero, List.set_cons_succ])
         refine wpAnyT_take (i := 6) (v := ?_) (by kernel_rfl) (by simp only [List.getElem?_toArray, List.getElem?_cons_succ, List.getElem?_cons_zero]; rfl) (by kernel_rfl) (fun _ _ _ h => QP.put h) (Or.inl ⟨by rfl, ?_⟩) hS ?_
         rotate_left
         · intro w' hSw; (try dsimp only at hSw); go_split_ands; go_simp; (try with_reducible rfl)
         (try simp only [Act.put, List.setIfInBounds_toArray, List.set_cons_zero, List.set_cons_succ])
         refine wpAnyT_ready [0] (by kernel_rfl) (by simp) ?_
         refine AllReadyT.cons (by simp only [List.getElem?_toArray, List.getElem?_cons_succ, List.getElem?_cons_zero]; rfl) rfl (fun K hK => ?_) ?_
         · skip
           go_simp
           refine (does_any _).mono ?_
           rintro e w50 ⟨rfl, hb⟩
           have hsz0 := hid (show Wd.heap.size ≤ w50.heap.size from hb.size)
           replace PT := hid (PT.out.step hb); replace HBA2 := hid (HBA2.out.step hb); replace HGP2 := hid (HGP2.out.step hb)
           clear hb
           go_wp2_with fail
           have hS' : (fun W' : World => W'.cell? ⟨wr.heap.size, 0, none⟩ = some (.int .i64 4) ∧ W'.cell? ⟨wr.heap.size, 1, none⟩ = some (.int .i64 tc)) _ := ⟨PT.out.cells2.1, PT.out.cells2.2.1⟩
           refine hK.out _ _ hS' ?_
           clear hK K hS
           have hS := hS'
           clear hS'
           (try simp only [Act.put, List.setIfInBounds_toArray, List.set_cons_zero, List.set_cons_succ])
           refine wpAnyT_take (i := 3) (v := ?_) (by kernel_rfl) (by simp only [List.getElem?_toArray, List.getElem?_cons_succ, List.getElem?_cons_zero]; rfl) (by kernel_rfl) (fun _ _ _ h => QP.put h) (Or.inl ⟨by rfl, ?_⟩) hS ?_
           rotate_left
           · intro w' hSw; (try dsimp only at hSw); go_split_ands; go_simp; (try with_reducible rfl)
           (try simp only [Act.put, List.setIfInBounds_toArray, List.set_cons_zero, List.set_cons_succ])
           refine wpAnyT_done (by kernel_rfl) ?_
           simp only [List.drop_succ_cons, List.drop_zero]
           clear hS
           go_wp2_with fail
           refine (tick_picks' _ lm gb s g' aq tc HBA2.out HBo.out HBA2.out.lo (by have := HQL.out; omega)).mono ?_
           rintro e W6 ⟨hg6, ⟨h0, rfl, hba⟩ | ⟨h0, rfl⟩⟩
           ·have HG6 := hid (HGP2.out.trans hg6)
            have HBA3 := hid hba
            have HPY := hid (show playA (now, ns, os) g [] L = playA (tickF s g' (4, tc)).2.1 (tickF s g' (4, tc)).2.2.1 (aq ++ (tickF s g' (4, tc)).2.2.2) (L.drop (j + 1)) by rw [HPX.out]; exact if_pos h0)
            have HBo2 := hid (both_tick HBo.out h0)
            have HQ2 := hid (show (aq ++ (tickF s g' (4, tc)).2.2.2).length ≤ j + 1 by rw [List.length_append]; have := tickF_one s g' (4, tc); have := HQL.out; omega)
            clear hg6 hba h0 HBA2 HBo HPX HQL HGP2
            go_wp2_with fail
            refine QP.normal ?_
            go_wp2
            go_roundw
            case rel => exact ⟨j + 1, _, _, _, by omega, by go_num, HPY.out, HBo2.out, HBA3.out, HQ2.out, HG6.out⟩
            case measure => simp [intOf]; omega
           ·have HG6 := hid (HGP2.out.trans hg6)
            have HPN := hid (show (playA (now, ns, os) g [] L).1 = (tickF s g' (4, tc)).1 by rw [HPX.out]; unfold playA; rw [if_neg h0])
            have H0 := hid h0
            clear hg6 h0
            unfold leaves
            go_wp2_with fail
            intro tm
            have hfin : ({ tmps := tm, defers := [] } : Act).defers = [] ∧ (GrownP (fun i => lm ≤ i) w1 W6 ∧ ((leaves (tickF s g' (4, tc)).1 = .returned (.tuple #[]) ∧ PlayYes (now, ns, os) g L lm gb W6) ∨ ∃ c, leaves (tickF s g' (4, tc)).1 = leaves c ∧ PlayNo (now, ns, os) g L c W6)) := ⟨rfl, HG6.out, .inr ⟨_, rfl, H0.out, HPN.out⟩⟩
            exact hfin
         exact AllReadyT.nil
    exact AllReadyT.nil
  exact AllReadyT.nil
end Go.Proofs.Ytbibfjncjklclaa
