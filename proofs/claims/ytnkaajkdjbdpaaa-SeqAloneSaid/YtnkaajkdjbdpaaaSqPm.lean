/- Chapter 06, SeqAlone: a write alone, and a read behind it. No condition. -/
import Derived.Test.YtnkaajkdjbdpaaaSqPl
namespace Go.Proofs.Ytnkaajkdjbdpaaa
/-- behind i steps of the write -/
structure AlW (vs : List Int) (i : Nat) (m : MSt) (s : Swr) : Prop where
  fl : m.2.2 = false
  lw : m.1.length = 20
  ll : m.2.1 = List.replicate 20 true
  a : s.a = 19
  f : s.f = 1
  v : s.vs = vs
  bg : s.bg = 0
  ph : s.ph = if i = 0 then 0 else if i = 1 then 1 else if i < vs.length + 2 then 2 else if i = vs.length + 2 then 3 else 4
  wr : s.wr = ((min (i - 2) vs.length : Nat) : Int)
  cnt : (m.1[19]?.getD 0 : Int) = if i < 2 then 0 else if i < vs.length + 3 then 1 else 2
  dat : ∀ k : Nat, k < vs.length → k + 2 < i → (m.1[1 + k]?.getD 0 : Int) = vs[k]?.getD 0
theorem AlW.step {vs : List Int} (h1 : 1 ≤ vs.length) (h18 : vs.length ≤ 18) {i : Nat} {m : MSt} {s : Swr} (h : AlW vs i m s) (hi : i < vs.length + 3) : AlW vs (i + 1) (swriteF m s).1 (swriteF m s).2 := by
  obtain ⟨a, f, xs, p, bg, wr⟩ := s
  obtain ⟨hfl, hlw, hll, ha, hf, hv, hbg, hp, hwr, hc, hd⟩ := h
  dsimp only at ha hf hv hbg hp hwr
  subst ha hf hv hbg
  have hset : ∀ x : Int, (m.1.set 19 x)[19]?.getD 0 = x := fun x => by rw [List.getElem?_set_self (by rw [hlw]; omega)]; rfl
  unfold swriteF swrun
  dsimp only
  by_cases p0 : i = 0
  · subst p0
    rw [if_pos rfl] at hp
    subst hp
    rw [if_pos rfl]
    unfold wbegin
    dsimp only
    have r9 : stepM m (1, 19, 0, 0) = (m, (m.1[19]?.getD 0, true)) := live_rd hlw hll (k := 19) (by omega)
    rw [if_pos (by omega)] at hc
    rw [r9]
    dsimp only
    rw [if_pos ⟨rfl, by omega⟩, if_neg (fun h => Bool.noConfusion h)]
    exact ⟨hfl, hlw, hll, rfl, rfl, rfl, hc, rfl, by dsimp only; omega, by dsimp only; rw [hc, if_pos (by omega)], fun k hk h => by omega⟩
  rw [if_neg p0] at hp
  by_cases p1 : i = 1
  · subst p1
    rw [if_pos rfl] at hp
    subst hp
    rw [if_neg (by omega), if_pos rfl]
    unfold wopen
    dsimp only
    have hwp : IntKind.u64.wrap (0 + 1) = 1 := by decide
    have r9 := live_wr hlw hll (k := 19) (by omega) 1
    rw [hwp, show ((19 : Nat) : Int) = 19 from rfl] at *
    rw [r9]
    dsimp only
    rw [if_neg (by simp)]
    exact ⟨hfl, by dsimp only; rw [List.length_set]; exact hlw, hll, rfl, rfl, rfl, rfl, by dsimp only; rw [if_neg (by omega), if_neg (by omega), if_pos (by omega)], by dsimp only; omega, by dsimp only; rw [hset, if_neg (by omega), if_pos (by omega)], fun k hk h => by omega⟩
  rw [if_neg p1] at hp
  by_cases p2 : i < xs.length + 2
  · rw [if_pos p2] at hp
    subst hp
    rw [if_neg (by omega), if_neg (by omega), if_pos rfl]
    unfold wdata
    dsimp only
    rw [if_neg (by omega), if_pos (by omega)] at hc
    obtain ⟨k, rfl⟩ : ∃ k, i = k + 2 := ⟨i - 2, by omega⟩
    have hk : k < xs.length := by omega
    obtain rfl : wr = (k : Int) := by omega
    have r2 := live_wr hlw hll (k := 1 + k) (by omega) (xs[k]?.getD 0)
    rw [Int.natCast_add] at r2
    rw [Int.toNat_natCast, show ((1 : Nat) : Int) = 1 from rfl] at *
    rw [r2]
    dsimp only
    rw [if_pos rfl, if_neg (fun h => Bool.noConfusion h)]
    refine ⟨hfl, by dsimp only; rw [List.length_set]; exact hlw, hll, rfl, rfl, rfl, rfl, ?_, ?_, ?_, fun q hq hq2 => ?_⟩
    · dsimp only
      repeat' split
      all_goals omega
    · dsimp only
      omega
    · dsimp only
      rw [List.getElem?_set_ne (by omega), hc, if_neg (by omega), if_pos (by omega)]
    · dsimp only
      by_cases e : q = k
      · subst e
        rw [List.getElem?_set_self (by rw [hlw]; omega)]
        rfl
      · rw [List.getElem?_set_ne (by omega)]
        exact hd q hq (by omega)
  · rw [if_neg p2, if_pos (by omega)] at hp
    subst hp
    rw [if_neg (by omega), if_neg (by omega), if_neg (by omega), if_pos rfl]
    unfold wclose
    dsimp only
    have hwp : IntKind.u64.wrap (0 + 2) = 2 := by decide
    have r9 := live_wr hlw hll (k := 19) (by omega) 2
    rw [hwp, show ((19 : Nat) : Int) = 19 from rfl] at *
    rw [r9]
    dsimp only
    rw [if_neg (by simp)]
    refine ⟨hfl, by dsimp only; rw [List.length_set]; exact hlw, hll, rfl, rfl, rfl, rfl, ?_, ?_, ?_, fun q hq hq2 => ?_⟩
    · dsimp only
      rw [if_neg (by omega), if_neg (by omega), if_neg (by omega), if_neg (by omega)]
    · dsimp only
      omega
    · dsimp only
      rw [hset, if_neg (by omega), if_neg (by omega)]
    · dsimp only
      rw [List.getElem?_set_ne (by omega)]
      exact hd q hq (by omega)
/-- the memory behind the write -/
structure AlM (vs : List Int) (m : MSt) : Prop where
  lw : m.1.length = 20
  ll : m.2.1 = List.replicate 20 true
  cnt : (m.1[19]?.getD 0 : Int) = 2
  dat : ∀ k : Nat, k < vs.length → (m.1[1 + k]?.getD 0 : Int) = vs[k]?.getD 0
/-- behind i steps of the read -/
structure AlR (vs : List Int) (i : Nat) (s : Srd) : Prop where
  a : s.a = 19
  f : s.f = 1
  m : s.m = vs.length
  bg : 0 < i → s.bg = 2
  ph : s.ph = if i = 0 then 0 else if i < vs.length + 1 then 2 else if i = vs.length + 1 then 3 else 4
  v : s.vs = vs.take (i - 1)
theorem AlR.step {vs : List Int} (h1 : 1 ≤ vs.length) (h18 : vs.length ≤ 18) {i : Nat} {m : MSt} {s : Srd} (hm : AlM vs m) (h : AlR vs i s) (hi : i < vs.length + 2) : (sreadF m s).1 = m ∧ AlR vs (i + 1) (sreadF m s).2 := by
  obtain ⟨a, f, mn, p, bg, xs, tr⟩ := s
  obtain ⟨ha, hf, hmn, hbg, hp, hv⟩ := h
  dsimp only at ha hf hmn hbg hp hv
  subst ha hf hmn hv
  obtain ⟨hlw, hll, hc, hd⟩ := hm
  have r9 : stepM m (1, 19, 0, 0) = (m, (2, true)) := by rw [← hc]; exact live_rd hlw hll (k := 19) (by omega)
  unfold sreadF srun
  dsimp only
  by_cases p0 : i = 0
  · subst p0
    rw [if_pos rfl] at hp
    subst hp
    rw [if_pos rfl]
    unfold rbegin
    dsimp only
    rw [r9]
    dsimp only
    rw [if_pos ⟨rfl, by omega⟩, if_neg (fun h => Bool.noConfusion h), if_neg (by omega)]
    exact ⟨rfl, rfl, rfl, rfl, fun _ => rfl, by dsimp only; rw [if_neg (by omega), if_pos (by omega)], by simp⟩
  rw [if_neg p0] at hp
  obtain rfl : bg = 2 := hbg (by omega)
  by_cases p2 : i < vs.length + 1
  · rw [if_pos p2] at hp
    subst hp
    rw [if_neg (by omega), if_pos rfl]
    obtain ⟨k, rfl⟩ : ∃ k, i = k + 1 := ⟨i - 1, by omega⟩
    have hk : k < vs.length := by omega
    have hlt : (vs.take (k + 1 - 1)).length = k := by rw [List.length_take]; omega
    have r2 : stepM m (1, 1 + (k : Int), 0, 0) = (m, (vs[k]?.getD 0, true)) := by
      have := live_rd hlw hll (k := 1 + k) (by omega)
      rw [Int.natCast_add, hd k hk] at this
      exact this
    unfold rdata
    dsimp only
    rw [hlt, r2]
    dsimp only
    rw [if_pos rfl, if_neg (fun h => Bool.noConfusion h)]
    refine ⟨rfl, rfl, rfl, rfl, fun _ => rfl, ?_, ?_⟩
    · dsimp only
      repeat' split
      all_goals omega
    · dsimp only
      rw [Nat.add_sub_cancel, Nat.add_sub_cancel, List.take_add_one, List.getElem?_eq_getElem hk]
      simp
  · rw [if_neg p2, if_pos (by omega)] at hp
    subst hp
    rw [if_neg (by omega), if_neg (by omega), if_pos rfl]
    unfold rclose
    dsimp only
    rw [r9]
    dsimp only
    rw [if_pos rfl, if_neg (fun h => Bool.noConfusion h), if_pos rfl]
    refine ⟨rfl, rfl, rfl, rfl, fun _ => rfl, ?_, ?_⟩
    · dsimp only
      rw [if_neg (by omega), if_neg (by omega), if_neg (by omega)]
    · dsimp only
      rw [List.take_of_length_le (by omega), List.take_of_length_le (by omega)]
theorem AlW.done {vs : List Int} {m : MSt} {s : Swr} (h : AlW vs (vs.length + 3) m s) : AlM vs m ∧ s.ph = 4 :=
  ⟨⟨h.lw, h.ll, by rw [h.cnt, if_neg (by omega), if_neg (by omega)], fun k hk => h.dat k hk (by omega)⟩, by rw [h.ph, if_neg (by omega), if_neg (by omega), if_neg (by omega), if_neg (by omega)]⟩
theorem swrite_over {m : MSt} {s : Swr} (h : s.ph = 4) : swriteF m s = (m, s) := by
  unfold swriteF swrun
  rw [if_neg (by omega), if_neg (by omega), if_neg (by omega), if_neg (by omega), if_neg (by simp)]
end Go.Proofs.Ytnkaajkdjbdpaaa
