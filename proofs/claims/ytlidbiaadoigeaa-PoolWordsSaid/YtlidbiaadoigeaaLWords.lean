/- afterglowlaw07.PoolWords returns true at every pool and row of numbers, and turns nothing old. No condition but the sizes of memory. -/
import Derived.Test.YtlidbiaadoigeaaPool11
namespace Go.Proofs.Ytlidbiaadoigeaa
open Go.RowKit

set_option maxHeartbeats 8000000 in
set_option maxRecDepth 100000 in
theorem words_any (base pages : Int) (A : Option Addr) (n c : Nat) (An : Option Addr) (nn cn lo : Nat) (xs ns : List Int) (w : World) (h : Sl i64 0 w lo w.heap.size A n xs) (hnc : n ≤ c) (hN : Sl i64 0 w 0 w.heap.size An nn ns)
    (hbd : ∀ y ∈ ns, -9223372036854775808 ≤ y ∧ y ≤ 9223372036854775807) :
    Calls Try.prog 4 #[pv base pages A n c, .slice An nn cn] w fun e w' => e = .returned (.bool true) ∧ Below w.heap.size w w' := by
  have hB := below_box w (.cells #[.int .i64 base, .int .i64 pages, .slice A n c] 24)
  have S0 := h.step hB
  have P0 := Blk.new w 24 #[.int .i64 base, .int .i64 pages, .slice A n c]
  have SN := hN.step hB
  have HBD := hid hbd
  clear h hN hbd
  go_enter Try.func4, Try.ntmps4
  go_wp2_with fail
  generalize w.alloc (.cells #[.int .i64 base, .int .i64 pages, .slice A n c] 24) = W0 at *
  refine (wakes_any _).mono ?_
  rintro e W1 ⟨rfl, hb1⟩
  replace S0 := S0.step hb1
  replace P0 := P0.step hb1
  replace SN := SN.step hb1
  replace hB := below_then hB hb1
  clear hb1
  obtain ⟨nq00, nq01, nq02, nf0⟩ := P0.cells3
  go_wp2_with fail
  clear nq00 nq01 nq02 nf0 
  refine (own_any base pages A n c lo xs W1 S0 hnc).mono ?_
  rintro e w2 ⟨A2, c2, rfl, hown2, hb2⟩
  obtain ⟨m2, hm2⟩ : ∃ m, m = min n 70 := ⟨_, rfl⟩
  obtain ⟨ys2, hys2⟩ : ∃ ys, ys = xs.take 70 := ⟨_, rfl⟩
  rw [← hm2, ← hys2] at hown2
  rw [← hm2]
  have hm2' : m2 ≤ 70 := by omega
  have HM2 := hid hm2
  have HY2 := hid hys2
  clear hm2 hys2
  have hx := below_then hb2 (below_box w2 (.cells #[.int .i64 base, .int .i64 pages, .slice A2 m2 c2] 24))
  replace SN := SN.step hx
  have S2 := (hown2.sl (d := 0)).step (below_box w2 (.cells #[.int .i64 base, .int .i64 pages, .slice A2 m2 c2] 24))
  have C2 := hown2.cap.1
  have P2 := Blk.new w2 24 #[.int .i64 base, .int .i64 pages, .slice A2 m2 c2]
  have HZ2 := hid (World.size_alloc w2 (.cells #[.int .i64 base, .int .i64 pages, .slice A2 m2 c2] 24))
  replace hB := below_then hB hx
  clear hx hb2 hown2
  go_wp2_with fail
  generalize w2.alloc (.cells #[.int .i64 base, .int .i64 pages, .slice A2 m2 c2] 24) = W2 at *
  refine (right_any base pages A2 m2 c2 _ ys2 _ S2 (by omega) C2).mono ?_
  rintro e W3 ⟨rfl, hb3⟩
  replace S2 := S2.step hb3
  replace P2 := P2.step hb3
  replace SN := SN.step hb3
  replace hB := below_then hB hb3
  clear hb3
  go_wp2_with fail
  have HB := hid hB
  have HP2 := hid P2; have HS2 := hid S2; have HSN := hid SN
  clear hB P2 S2 SN S0 P0
  obtain ⟨rt, hrt⟩ : ∃ rt, rt = freeB base pages ys2 := ⟨_, rfl⟩
  rw [← hrt]
  have HRT := hid hrt; clear hrt
  go_loopw [27] (fun i wr => ∃ k : Nat, k ≤ nn ∧ i = .int .i64 k ∧ k ≤ 10 ∧ Below W3.heap.size W3 wr) (fun i _ => nn - (intOf i).toNat)
  case atStart => exact ⟨0, Nat.zero_le _, rfl, by omega, Below.refl _ _⟩
  case round =>
    obtain ⟨k, hk, rfl, hk10, hBr⟩ := hrel
    have P2' := HP2.out.step hBr
    have S2' := HS2.out.step hBr
    have SN' := HSN.out.step hBr
    by_cases hlt : k < nn
    · by_cases h10 : k = 10
      · subst h10
        obtain ⟨b, off, rfl, _, _, hc⟩ := SN'.row (by omega)
        have g := hc 10 hlt
        clear hc SN' S2' P2'
        go_wp2
        go_ret
        exact ⟨rfl, below_then HB.out hBr⟩
      · obtain ⟨b, off, rfl, _, _, hc⟩ := SN'.row (by omega)
        have g := hc k hlt
        obtain ⟨x, hX⟩ : ∃ x, x = ns[k]?.getD 0 := ⟨_, rfl⟩
        rw [← hX] at g
        have hx : -9223372036854775808 ≤ x ∧ x ≤ 9223372036854775807 := by
          have hl : k < ns.length := by rw [SN'.len]; exact hlt
          rw [List.getElem?_eq_getElem hl] at hX
          rw [hX]; exact HBD.out _ (List.getElem_mem hl)
        clear hX hc SN'
        have e10 : ((k : Int) == 10) = false := by simp; omega
        obtain ⟨k0, k1, k2, kf⟩ := P2'.cells3
        have hW := word_any base pages A2 m2 c2 _ ys2 x wr S2' (by omega)
        have hP := fun (W : World) (S : Sl i64 0 W _ W.heap.size A2 m2 ys2) => page_any base pages A2 m2 c2 W1.heap.size ys2 x W S (by omega)
        by_cases hf : freeB base pages ys2 = true
        · have hs := sizedB_iff.1 (freeB_sized hf)
          have HR0 := hid (fun W : World => rpage_any base pages A2 m2 c2 x W (freeB_sized hf))
          have ert : rt = true := HRT.out.trans hf
          subst ert
          by_cases hw : 0 ≤ x ∧ x < pages
          · rw [show wordF base pages ys2 x = (base + x * 16, 0) by rw [wordF, if_pos hf, if_pos hw]] at hW
            obtain ⟨hw0, hw1⟩ := hw
            by_cases hq : base ≤ x ∧ x < base + pages * 16
            · rw [show pageF base pages ys2 x = ((x - base) / 16, (x - base) % 16, 0) by rw [pageF, if_pos hf, if_pos hq]] at hP
              have hR := HR0.out
              rw [show rpageF base pages x = ((x - base) / 16, (x - base) % 16) by rw [rpageF, if_pos hq]] at hR
              obtain ⟨hq0, hq1⟩ := hq
              have HW := hid hW; have HPP := hid hP; have HRR := hid hR
              clear hW hP hR hf HR0
              go_wp2_with fail
              refine (HW.out).mono ?_
              rintro e wa ⟨rfl, hba⟩
              replace P2' := P2'.step hba
              replace S2' := S2'.step hba
              replace hBr := below_then hBr hba
              clear hba
              obtain ⟨k0, k1, k2, kf⟩ := P2'.cells3
              have HP := hid (HPP.out _ S2')
              go_wp2_with fail
              refine HP.out.mono ?_
              rintro e wb ⟨rfl, hbb⟩
              replace P2' := P2'.step hbb
              replace S2' := S2'.step hbb
              replace hBr := below_then hBr hbb
              clear hbb k0 k1 k2 kf HP
              obtain ⟨k0, k1, k2, kf⟩ := P2'.cells3
              have HR := hid (HRR.out wb)
              go_wp2_with fail
              refine HR.out.mono ?_
              rintro e wc ⟨rfl, hbc⟩
              replace hBr := below_then hBr hbc
              go_wp2
              go_roundw
              case rel => exact ⟨k + 1, by omega, by go_num, by omega, hBr⟩
              case measure => simp [intOf]; omega
            · rw [show pageF base pages ys2 x = (0, 0, 2) by rw [pageF, if_pos hf, if_neg hq]] at hP
              have hR := HR0.out
              rw [show rpageF base pages x = (-1, 0) by rw [rpageF, if_neg hq]] at hR
              have HW := hid hW; have HPP := hid hP; have HRR := hid hR
              clear hW hP hR hf HR0
              go_wp2_with fail
              refine (HW.out).mono ?_
              rintro e wa ⟨rfl, hba⟩
              replace P2' := P2'.step hba
              replace S2' := S2'.step hba
              replace hBr := below_then hBr hba
              clear hba
              obtain ⟨k0, k1, k2, kf⟩ := P2'.cells3
              have HP := hid (HPP.out _ S2')
              go_wp2_with fail
              refine HP.out.mono ?_
              rintro e wb ⟨rfl, hbb⟩
              replace P2' := P2'.step hbb
              replace S2' := S2'.step hbb
              replace hBr := below_then hBr hbb
              clear hbb k0 k1 k2 kf HP
              obtain ⟨k0, k1, k2, kf⟩ := P2'.cells3
              have HR := hid (HRR.out wb)
              go_wp2_with fail
              refine HR.out.mono ?_
              rintro e wc ⟨rfl, hbc⟩
              replace hBr := below_then hBr hbc
              go_wp2
              go_roundw
              case rel => exact ⟨k + 1, by omega, by go_num, by omega, hBr⟩
              case measure => simp [intOf]; omega
          · rw [show wordF base pages ys2 x = (0, 2) by rw [wordF, if_pos hf, if_neg hw]] at hW
            by_cases hq : base ≤ x ∧ x < base + pages * 16
            · rw [show pageF base pages ys2 x = ((x - base) / 16, (x - base) % 16, 0) by rw [pageF, if_pos hf, if_pos hq]] at hP
              have hR := HR0.out
              rw [show rpageF base pages x = ((x - base) / 16, (x - base) % 16) by rw [rpageF, if_pos hq]] at hR
              obtain ⟨hq0, hq1⟩ := hq
              have HW := hid hW; have HPP := hid hP; have HRR := hid hR
              clear hW hP hR hf HR0
              go_wp2_with fail
              refine (HW.out).mono ?_
              rintro e wa ⟨rfl, hba⟩
              replace P2' := P2'.step hba
              replace S2' := S2'.step hba
              replace hBr := below_then hBr hba
              clear hba
              obtain ⟨k0, k1, k2, kf⟩ := P2'.cells3
              have HP := hid (HPP.out _ S2')
              go_wp2_with fail
              refine HP.out.mono ?_
              rintro e wb ⟨rfl, hbb⟩
              replace P2' := P2'.step hbb
              replace S2' := S2'.step hbb
              replace hBr := below_then hBr hbb
              clear hbb k0 k1 k2 kf HP
              obtain ⟨k0, k1, k2, kf⟩ := P2'.cells3
              have HR := hid (HRR.out wb)
              go_wp2_with fail
              refine HR.out.mono ?_
              rintro e wc ⟨rfl, hbc⟩
              replace hBr := below_then hBr hbc
              go_wp2
              go_roundw
              case rel => exact ⟨k + 1, by omega, by go_num, by omega, hBr⟩
              case measure => simp [intOf]; omega
            · rw [show pageF base pages ys2 x = (0, 0, 2) by rw [pageF, if_pos hf, if_neg hq]] at hP
              have hR := HR0.out
              rw [show rpageF base pages x = (-1, 0) by rw [rpageF, if_neg hq]] at hR
              have HW := hid hW; have HPP := hid hP; have HRR := hid hR
              clear hW hP hR hf HR0
              by_cases hx0 : x < 0
              · go_wp2_with fail
                refine (HW.out).mono ?_
                rintro e wa ⟨rfl, hba⟩
                replace P2' := P2'.step hba
                replace S2' := S2'.step hba
                replace hBr := below_then hBr hba
                clear hba
                obtain ⟨k0, k1, k2, kf⟩ := P2'.cells3
                have HP := hid (HPP.out _ S2')
                go_wp2_with fail
                refine HP.out.mono ?_
                rintro e wb ⟨rfl, hbb⟩
                replace P2' := P2'.step hbb
                replace S2' := S2'.step hbb
                replace hBr := below_then hBr hbb
                clear hbb k0 k1 k2 kf HP
                obtain ⟨k0, k1, k2, kf⟩ := P2'.cells3
                have HR := hid (HRR.out wb)
                go_wp2_with fail
                refine HR.out.mono ?_
                rintro e wc ⟨rfl, hbc⟩
                replace hBr := below_then hBr hbc
                go_wp2
                go_roundw
                case rel => exact ⟨k + 1, by omega, by go_num, by omega, hBr⟩
                case measure => simp [intOf]; omega
              · have hx1 : pages ≤ x := by omega
                have hx2 : 0 ≤ x := by omega
                go_wp2_with fail
                refine (HW.out).mono ?_
                rintro e wa ⟨rfl, hba⟩
                replace P2' := P2'.step hba
                replace S2' := S2'.step hba
                replace hBr := below_then hBr hba
                clear hba
                obtain ⟨k0, k1, k2, kf⟩ := P2'.cells3
                have HP := hid (HPP.out _ S2')
                go_wp2_with fail
                refine HP.out.mono ?_
                rintro e wb ⟨rfl, hbb⟩
                replace P2' := P2'.step hbb
                replace S2' := S2'.step hbb
                replace hBr := below_then hBr hbb
                clear hbb k0 k1 k2 kf HP
                obtain ⟨k0, k1, k2, kf⟩ := P2'.cells3
                have HR := hid (HRR.out wb)
                go_wp2_with fail
                refine HR.out.mono ?_
                rintro e wc ⟨rfl, hbc⟩
                replace hBr := below_then hBr hbc
                go_wp2
                go_roundw
                case rel => exact ⟨k + 1, by omega, by go_num, by omega, hBr⟩
                case measure => simp [intOf]; omega
        · rw [show wordF base pages ys2 x = (0, 170) by rw [wordF, if_neg hf]] at hW
          rw [show pageF base pages ys2 x = (0, 0, 170) by rw [pageF, if_neg hf]] at hP
          have ert : rt = false := HRT.out.trans (by simpa using hf)
          subst ert
          have HW := hid hW; have HPP := hid hP
          clear hW hP hf
          go_wp2_with fail
          refine (HW.out).mono ?_
          rintro e wa ⟨rfl, hba⟩
          replace P2' := P2'.step hba
          replace S2' := S2'.step hba
          replace hBr := below_then hBr hba
          clear hba
          obtain ⟨k0, k1, k2, kf⟩ := P2'.cells3
          have HP := hid (HPP.out _ S2')
          go_wp2_with fail
          refine HP.out.mono ?_
          rintro e wb ⟨rfl, hbb⟩
          replace P2' := P2'.step hbb
          replace S2' := S2'.step hbb
          replace hBr := below_then hBr hbb
          clear hbb k0 k1 k2 kf HP
          obtain ⟨k0, k1, k2, kf⟩ := P2'.cells3
          go_wp2
          go_roundw
          case rel => exact ⟨k + 1, by omega, by go_num, by omega, hBr⟩
          case measure => simp [intOf]; omega
    · obtain rfl : k = nn := by omega
      clear P2' S2' SN'
      go_wp2
      go_ret
      exact ⟨rfl, below_then HB.out hBr⟩
end Go.Proofs.Ytlidbiaadoigeaa
