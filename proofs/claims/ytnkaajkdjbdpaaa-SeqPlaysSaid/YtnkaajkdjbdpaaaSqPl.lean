/- Chapter 06, SeqWhole: a read while writes of the same words go on. No condition. -/
import Derived.Test.YtnkaajkdjbdpaaaSqP
namespace Go.Proofs.Ytnkaajkdjbdpaaa
/-- V: what the words hold behind so many writes; N writes; mny words -/
structure SqV (V : Nat → List Int) (N mny : Nat) : Prop where
  len : ∀ i, i ≤ N → (V i).length = mny
  lo : 1 ≤ mny
  hi : mny ≤ 3
  few : N ≤ 4
  rng : ∀ i, i ≤ N → ∀ y ∈ V i, 0 ≤ y ∧ y ≤ 18446744073709551615
/-- word k behind j writes, and k words of the next -/
def midw (V : Nat → List Int) (j wr k : Nat) : Int := if k < wr then (V (j + 1))[k]?.getD 0 else (V j)[k]?.getD 0
/-- the memory and the writes: j are done, the next one is at phase ph, with wr words written -/
structure SqW (V : Nat → List Int) (N mny : Nat) (m : MSt) (l : List Swr) (j : Nat) (ph : Int) (wr : Nat) : Prop where
  fl : m.2.2 = false
  lw : m.1.length = 12
  ll : m.2.1 = List.replicate 12 true
  cnt : (m.1[9]?.getD 0 : Int) = 2 * (j : Int) + (if 2 ≤ ph then (1 : Int) else 0)
  dat : ∀ k, k < mny → (m.1[2 + k]?.getD 0 : Int) = midw V j wr k
  len : l.length = N
  jl : j ≤ N
  phs : (ph = 0 ∨ ph = 1) ∧ wr = 0 ∨ ph = 2 ∧ wr < mny ∨ ph = 3 ∧ wr = mny
  fin : j = N → ph = 0
  old : ∀ i, i < j → ∃ b w, l[i]? = some ⟨9, 2, V (i + 1), 4, b, w⟩
  now : j < N → ∃ b, l[j]? = some ⟨9, 2, V (j + 1), ph, b, wr⟩ ∧ (ph ≠ 0 → b = 2 * j)
  new : ∀ i, j < i → i < N → l[i]? = some ⟨9, 2, V (i + 1), 0, 0, 0⟩
/-- the read, while the counter is c -/
structure SqR (V : Nat → List Int) (N mny : Nat) (c : Int) (s : Srd) : Prop where
  a : s.a = 9
  f : s.f = 2
  m : s.m = mny
  tr : 0 ≤ s.tr
  phs : s.ph = 0 ∧ 2 * s.tr ≤ c + 1
    ∨ (s.ph = 2 ∨ s.ph = 3) ∧ (∃ i : Nat, s.bg = 2 * i ∧ s.bg ≤ c ∧ i ≤ N ∧ s.tr ≤ i ∧ (c = s.bg → s.vs = (V i).take s.vs.length)) ∧ (s.ph = 2 ∧ s.vs.length < mny ∨ s.ph = 3 ∧ s.vs.length = mny)
    ∨ s.ph = 4 ∧ s.tr ≤ N ∧ ∃ i : Nat, i ≤ N ∧ s.vs = V i
theorem live_at {m : MSt} {L : Nat} (h1 : m.1.length = L) (h2 : m.2.1 = List.replicate L true) {k : Nat} (hk : k < L) : goodAt m (k : Int) = true := by
  unfold goodAt
  rw [decide_eq_true (by rw [h1]; omega), h2, Int.toNat_natCast, List.getElem?_replicate, if_pos hk]
  rfl
theorem live_rd {m : MSt} {L : Nat} (h1 : m.1.length = L) (h2 : m.2.1 = List.replicate L true) {k : Nat} (hk : k < L) : stepM m (1, (k : Int), 0, 0) = (m, (m.1[k]?.getD 0, true)) := by
  unfold stepM
  dsimp only
  rw [live_at h1 h2 hk, if_neg (by simp), if_pos rfl, Int.toNat_natCast]
theorem live_wr {m : MSt} {L : Nat} (h1 : m.1.length = L) (h2 : m.2.1 = List.replicate L true) {k : Nat} (hk : k < L) (v : Int) : stepM m (2, (k : Int), 0, v) = ((m.1.set k v, m.2.1, m.2.2), (m.1[k]?.getD 0, true)) := by
  unfold stepM
  dsimp only
  rw [live_at h1 h2 hk, if_neg (by simp), if_neg (by omega), if_neg (by omega), Int.toNat_natCast]
/-- the first write that goes on is the one after those that are done -/
theorem firstGo_at : ∀ (l : List Swr) (j : Nat), (∀ i, i < j → ∃ s, l[i]? = some s ∧ ¬ s.ph < 4) → (∃ s, l[j]? = some s ∧ s.ph < 4) → firstGo l = j
  | [], j, _, ⟨s, hs, _⟩ => by simp at hs
  | x :: l, 0, _, ⟨s, hs, h4⟩ => by
    obtain rfl : x = s := by simpa using hs
    unfold firstGo
    rw [if_pos h4]
    rfl
  | x :: l, j + 1, h1, ⟨s, hs, h4⟩ => by
    obtain ⟨y, hy, hn⟩ := h1 0 (by omega)
    obtain rfl : x = y := by simpa using hy
    have ih := firstGo_at l j (fun i hi => by have := h1 (i + 1) (by omega); simpa using this) ⟨s, by simpa using hs, h4⟩
    unfold firstGo
    rw [if_neg hn, ih, if_neg (by omega)]
    omega
/-- a read's step keeps what is said of it, and changes no memory -/
theorem SqR.step {V : Nat → List Int} {N mny : Nat} (hV : SqV V N mny) {m : MSt} {l : List Swr} {j : Nat} {ph : Int} {wr : Nat} (hw : SqW V N mny m l j ph wr) {s : Srd}
    (h : SqR V N mny (m.1[9]?.getD 0) s) : (sreadF m s).1 = m ∧ SqR V N mny (m.1[9]?.getD 0) (sreadF m s).2 := by
  obtain ⟨a, f, mn, p, bg, vs, tr⟩ := s
  obtain ⟨ha, hf, hm, htr, hp⟩ := h
  dsimp only at ha hf hm htr hp
  subst ha hf hm
  have hc := hw.cnt
  have hj := hw.jl
  obtain ⟨c, hcc⟩ : ∃ c, c = m.1[9]?.getD 0 := ⟨_, rfl⟩
  rw [← hcc] at hc hp ⊢
  have r9 : stepM m (1, 9, 0, 0) = (m, (c, true)) := by rw [hcc]; exact live_rd hw.lw hw.ll (k := 9) (by omega)
  have hl := hV.lo
  have hh := hV.hi
  unfold sreadF srun
  dsimp only
  rcases hp with ⟨rfl, h1⟩ | ⟨h0, ⟨i, h2, h3, h4, h5, h6⟩, h7⟩ | ⟨rfl, h8, h9⟩
  · rw [if_pos rfl]
    unfold rbegin
    dsimp only
    rw [r9]
    dsimp only
    split
    · rename_i hx
      have hi : ∃ i : Nat, c = 2 * i ∧ i ≤ N := by
        refine ⟨j, ?_, hj⟩
        split at hc <;> omega
      obtain ⟨i, hi, hiN⟩ := hi
      rw [if_neg (fun h => Bool.noConfusion h), if_neg (by omega)]
      exact ⟨rfl, rfl, rfl, rfl, htr, .inr (.inl ⟨.inl rfl, ⟨i, hi, Int.le_refl _, hiN, by dsimp only; omega, fun _ => by simp⟩, .inl ⟨rfl, by simp; omega⟩⟩)⟩
    · rw [if_neg (by simp)]
      exact ⟨rfl, rfl, rfl, rfl, htr, .inl ⟨rfl, h1⟩⟩
  · rcases h7 with ⟨rfl, h7⟩ | ⟨rfl, h7⟩
    · rw [if_neg (by omega), if_pos rfl]
      have r2 : stepM m (1, 2 + (vs.length : Int), 0, 0) = (m, (m.1[2 + vs.length]?.getD 0, true)) := by
        have := live_rd hw.lw hw.ll (k := 2 + vs.length) (by omega)
        rwa [Int.natCast_add] at this
      unfold rdata
      dsimp only
      rw [r2]
      dsimp only
      rw [if_pos rfl, if_neg (fun h => Bool.noConfusion h)]
      refine ⟨rfl, rfl, rfl, rfl, htr, .inr (.inl ⟨by dsimp only; split <;> simp, ⟨i, h2, h3, h4, h5, fun e => ?_⟩, ?_⟩)⟩
      · have e2 := h6 e
        have hji : j = i := by dsimp only at e; split at hc <;> omega
        have hph : ¬ 2 ≤ ph := by intro h; rw [if_pos h] at hc; dsimp only at e; omega
        have hwr : wr = 0 := by rcases hw.phs with h | h | h <;> omega
        subst hji hwr
        have hd := hw.dat vs.length h7
        unfold midw at hd
        rw [if_neg (by omega)] at hd
        rw [hd]
        have hvl := hV.len j h4
        dsimp only
        rw [List.length_append, List.length_singleton, List.take_add_one, ← e2, List.getElem?_eq_getElem (by omega)]
        simp
      · dsimp only
        rw [List.length_append, List.length_singleton]
        split <;> omega
    · rw [if_neg (by omega), if_neg (by omega), if_pos rfl]
      unfold rclose
      dsimp only
      rw [r9]
      dsimp only
      rw [if_pos rfl, if_neg (fun h => Bool.noConfusion h)]
      split
      · rename_i e
        have e2 := h6 e
        have hvl := hV.len i h4
        exact ⟨rfl, rfl, rfl, rfl, htr, .inr (.inr ⟨rfl, by dsimp only; omega, i, h4, by dsimp only; rw [e2, List.take_of_length_le (by omega)]⟩)⟩
      · rename_i e
        refine ⟨rfl, rfl, rfl, rfl, by dsimp only; omega, .inl ⟨rfl, ?_⟩⟩
        dsimp only
        omega
  · rw [if_neg (by omega), if_neg (by omega), if_neg (by omega), if_neg (by simp)]
    exact ⟨rfl, rfl, rfl, rfl, htr, .inr (.inr ⟨rfl, h8, h9⟩)⟩
theorem SqR.mono {V : Nat → List Int} {N mny : Nat} {c d : Int} {s : Srd} (h : SqR V N mny c s) (hcd : c ≤ d) : SqR V N mny d s := by
  obtain ⟨ha, hf, hm, htr, hp⟩ := h
  refine ⟨ha, hf, hm, htr, ?_⟩
  rcases hp with ⟨h0, h1⟩ | ⟨h0, ⟨i, h2, h3, h4, h5, h6⟩, h7⟩ | h8
  · exact .inl ⟨h0, by omega⟩
  · exact .inr (.inl ⟨h0, ⟨i, h2, by omega, h4, h5, fun e => h6 (by omega)⟩, h7⟩)
  · exact .inr (.inr h8)
/-- a write's step -/
theorem SqW.step {V : Nat → List Int} {N mny : Nat} (hV : SqV V N mny) {m : MSt} {l : List Swr} {j : Nat} {ph : Int} {wr : Nat} (hw : SqW V N mny m l j ph wr) {s : Swr} (hj : j < N) (hs : l[j]? = some s) :
    firstGo l = j ∧ ∃ j' ph' wr', SqW V N mny (swriteF m s).1 (l.set j (swriteF m s).2) j' ph' wr' ∧ m.1[9]?.getD 0 ≤ (swriteF m s).1.1[9]?.getD 0 := by
  obtain ⟨b, hb, hbj⟩ := hw.now hj
  obtain rfl : s = _ := Option.some.inj (hs.symm.trans hb)
  have hlj : j < l.length := by rw [hw.len]; exact hj
  have hc := hw.cnt
  have hh := hV.hi
  have hl := hV.lo
  have hf := hV.few
  have hvl := hV.len (j + 1) hj
  have hph : 0 ≤ ph ∧ ph < 4 := by rcases hw.phs with h | h | h <;> omega
  refine ⟨firstGo_at l j (fun i hi => by obtain ⟨b, w, h⟩ := hw.old i hi; exact ⟨_, h, by dsimp only; omega⟩) ⟨_, hb, hph.2⟩, ?_⟩
  have hold : ∀ s' i, i < j → ∃ b w, (l.set j s')[i]? = some ⟨9, 2, V (i + 1), 4, b, w⟩ := fun s' i hi => by
    rw [List.getElem?_set_ne (by omega)]; exact hw.old i hi
  have hnew : ∀ s' i, j < i → i < N → (l.set j s')[i]? = some ⟨9, 2, V (i + 1), 0, 0, 0⟩ := fun s' i hi hn => by
    rw [List.getElem?_set_ne (by omega)]; exact hw.new i hi hn
  have hnow : ∀ s', (l.set j s')[j]? = some s' := fun s' => by rw [List.getElem?_set_self hlj]
  have hset9 : ∀ v : Int, (m.1.set 9 v)[9]?.getD 0 = v := fun v => by rw [List.getElem?_set_self (by rw [hw.lw]; omega)]; rfl
  unfold swriteF swrun
  dsimp only
  by_cases p0 : ph = 0
  · subst p0
    have hwr : wr = 0 := by rcases hw.phs with h | h | h <;> omega
    subst hwr
    rw [if_pos rfl]
    unfold wbegin
    dsimp only
    have r9 : stepM m (1, 9, 0, 0) = (m, (m.1[9]?.getD 0, true)) := live_rd hw.lw hw.ll (k := 9) (by omega)
    rw [r9]
    dsimp only
    rw [if_neg (by omega)] at hc
    rw [if_pos ⟨rfl, by omega⟩, if_neg (fun h => Bool.noConfusion h)]
    refine ⟨j, 1, 0, ⟨hw.fl, hw.lw, hw.ll, ?_, hw.dat, by rw [List.length_set]; exact hw.len, hw.jl, .inl ⟨.inr rfl, rfl⟩, fun e => by omega, hold _, fun _ => ⟨_, hnow _, fun _ => ?_⟩, hnew _⟩, Int.le_refl _⟩
    · rw [hc]; rfl
    · rw [hc]; omega
  rw [if_neg p0]
  have hbj := hbj p0
  subst hbj
  by_cases p1 : ph = 1
  · subst p1
    have hwr : wr = 0 := by rcases hw.phs with h | h | h <;> omega
    subst hwr
    rw [if_pos rfl]
    unfold wopen
    dsimp only
    have hwp : IntKind.u64.wrap (2 * (j : Int) + 1) = 2 * j + 1 := by rw [IntKind.wrap_u64]; omega
    have r9 := live_wr hw.lw hw.ll (k := 9) (by omega) (2 * (j : Int) + 1)
    rw [hwp, show ((9 : Nat) : Int) = 9 from rfl] at *
    rw [r9]
    dsimp only
    rw [if_neg (by omega)] at hc
    rw [if_neg (by simp)]
    refine ⟨j, 2, 0, ⟨hw.fl, by dsimp only; rw [List.length_set]; exact hw.lw, hw.ll, ?_, fun k hk => ?_, by rw [List.length_set]; exact hw.len, hw.jl, .inr (.inl ⟨rfl, by omega⟩), fun e => by omega, hold _, fun _ => ⟨_, hnow _, fun _ => rfl⟩, hnew _⟩, ?_⟩
    · dsimp only; rw [hset9]; rfl
    · dsimp only; rw [List.getElem?_set_ne (by omega)]; exact hw.dat k hk
    · rw [hset9]; omega
  rw [if_neg p1]
  by_cases p2 : ph = 2
  · subst p2
    have hwr : wr < mny := by rcases hw.phs with h | h | h <;> omega
    rw [if_pos rfl]
    unfold wdata
    dsimp only
    rw [if_pos (by omega)] at hc
    have r2 := live_wr hw.lw hw.ll (k := 2 + wr) (by omega) ((V (j + 1))[wr]?.getD 0)
    rw [Int.natCast_add] at r2
    rw [Int.toNat_natCast, show ((2 : Nat) : Int) = 2 from rfl] at *
    rw [r2]
    dsimp only
    rw [if_pos rfl, if_neg (fun h => Bool.noConfusion h)]
    refine ⟨j, if (wr : Int) + 1 = (V (j + 1)).length then 3 else 2, wr + 1, ⟨hw.fl, by dsimp only; rw [List.length_set]; exact hw.lw, hw.ll, ?_, fun k hk => ?_, by rw [List.length_set]; exact hw.len, hw.jl, ?_, fun e => by omega, hold _, fun _ => ⟨_, hnow _, fun _ => rfl⟩, hnew _⟩, ?_⟩
    · dsimp only
      rw [List.getElem?_set_ne (by omega), hc]
      split <;> simp
    · dsimp only
      have hd := hw.dat k hk
      unfold midw at hd ⊢
      by_cases e : k = wr
      · subst e
        rw [List.getElem?_set_self (by rw [hw.lw]; omega), if_pos (by omega)]
        rfl
      · rw [List.getElem?_set_ne (by omega), hd]
        by_cases e2 : k < wr
        · rw [if_pos e2, if_pos (by omega)]
        · rw [if_neg e2, if_neg (by omega)]
    · rw [hvl]
      split <;> omega
    · dsimp only
      rw [List.getElem?_set_ne (by omega)]
      exact Int.le_refl _
  · have p3 : ph = 3 := by omega
    subst p3
    have hwr : wr = mny := by rcases hw.phs with h | h | h <;> omega
    subst hwr
    rw [if_neg p2, if_pos rfl]
    unfold wclose
    dsimp only
    have hwp : IntKind.u64.wrap (2 * (j : Int) + 2) = 2 * j + 2 := by rw [IntKind.wrap_u64]; omega
    have r9 := live_wr hw.lw hw.ll (k := 9) (by omega) (2 * (j : Int) + 2)
    rw [hwp, show ((9 : Nat) : Int) = 9 from rfl] at *
    rw [r9]
    dsimp only
    rw [if_pos (by omega)] at hc
    rw [if_neg (by simp)]
    refine ⟨j + 1, 0, 0, ⟨hw.fl, by dsimp only; rw [List.length_set]; exact hw.lw, hw.ll, ?_, fun k hk => ?_, by rw [List.length_set]; exact hw.len, hj, .inl ⟨.inl rfl, rfl⟩, fun e => rfl, fun i hi => ?_, fun h => ?_, fun i h1 h2 => hnew _ i (by omega) h2⟩, ?_⟩
    · dsimp only; rw [hset9, if_neg (by omega)]; omega
    · dsimp only; rw [List.getElem?_set_ne (by omega), hw.dat k hk]
      unfold midw
      rw [if_pos hk, if_neg (by omega)]
    · by_cases e : i = j
      · subst e
        exact ⟨_, _, hnow _⟩
      · exact hold _ i (by omega)
    · exact ⟨0, hnew _ (j + 1) (by omega) h, fun h => absurd rfl h⟩
    · rw [hset9]; omega
end Go.Proofs.Ytnkaajkdjbdpaaa
