/- The nearest ratio with a small denominator: plain, with no program in sight. -/
import Derived.Test.YtlcgfhliaalccaaRs
set_option linter.unusedVariables false
set_option linter.unusedSimpArgs false
namespace Go.Proofs.Ytlcgfhliaalccaa
namespace Rt

structure NS where
  num : Int
  den : Int
  away : Int
/-- is n / d, by a away, better than what was found? -/
def btr (n d a : Int) (s : NS) : Bool := s.den == 0 || (decide (a * s.den < s.away * d) || (a * s.den == s.away * d && decide (n * s.den < s.num * d)))
def cand (N D d n : Int) (s : NS) : NS := if btr n d ((N * d - n * D).natAbs : Int) s then ⟨n, d, ((N * d - n * D).natAbs : Int)⟩ else s
def it (N D d q : Int) (s : NS) : Nat → NS
  | 0 => s
  | j + 1 => cand N D d (q + (j : Int)) (it N D d q s j)
def nr (N D : Int) : Nat → NS
  | 0 => ⟨0, 0, 0⟩
  | k + 1 => it N D ((k : Int) + 1) (N * ((k : Int) + 1) / D) (nr N D k) 2
def near (N D M : Int) : R3 := if val N D && (decide (1 ≤ M) && decide (M ≤ 1000)) then out (rat (nr N D M.toNat).num (nr N D M.toNat).den) else ⟨0, 0, 1⟩

/-- what holds of all that is found -/
structure NI (N D K : Int) (s : NS) : Prop where
  d0 : 0 ≤ s.den
  d1 : s.den ≤ K
  a0 : 0 ≤ s.away
  a1 : s.away ≤ D
  n0 : -2000000000000 ≤ s.num
  n1 : s.num ≤ 2000000000000
  aw : s.den ≠ 0 → s.away = ((N * s.den - s.num * D).natAbs : Int)

theorem cand_inv {N D K d n : Int} {s : NS} (h : NI N D K s) (hd : 1 ≤ d) (hd2 : d ≤ K) (hn : -2000000000000 ≤ n ∧ n ≤ 2000000000000) (ha : ((N * d - n * D).natAbs : Int) ≤ D) : NI N D K (cand N D d n s) := by
  unfold cand; split
  · exact ⟨by show 0 ≤ d; omega, hd2, by show (0 : Int) ≤ ((N * d - n * D).natAbs : Int); omega, ha, hn.1, hn.2, fun _ => rfl⟩
  · exact h

theorem cand_pos {N D d n : Int} {s : NS} (h0 : 0 ≤ s.den) (hd : 1 ≤ d) : 1 ≤ (cand N D d n s).den := by
  unfold cand; split
  · exact hd
  · rename_i hb
    unfold btr at hb
    simp only [Bool.or_eq_true, not_or] at hb
    have : s.den ≠ 0 := by simpa using hb.1
    omega

theorem cand_self {N D d n : Int} {s : NS} : (cand N D d n s).away * d ≤ ((N * d - n * D).natAbs : Int) * (cand N D d n s).den := by
  unfold cand; split
  · exact Int.le_refl _
  · rename_i hb
    unfold btr at hb
    simp only [Bool.or_eq_true, not_or, decide_eq_true_eq] at hb
    omega

theorem cand_keep {N D d n d' a' : Int} {s : NS} (h0 : 1 ≤ s.den) (hd : 1 ≤ d) (hd' : 0 ≤ d') (h : s.away * d' ≤ a' * s.den) : (cand N D d n s).away * d' ≤ a' * (cand N D d n s).den := by
  unfold cand; split
  · rename_i hb
    show ((N * d - n * D).natAbs : Int) * d' ≤ a' * d
    generalize ((N * d - n * D).natAbs : Int) = a at *
    have hb2 : a * s.den ≤ s.away * d := by
      unfold btr at hb
      simp only [Bool.or_eq_true, Bool.and_eq_true, decide_eq_true_eq, beq_iff_eq] at hb
      omega
    have q1 : (a * d') * s.den ≤ (a' * d) * s.den := by
      have e1 : (a * d') * s.den = (a * s.den) * d' := Int.mul_right_comm _ _ _
      have e2 : (a * s.den) * d' ≤ (s.away * d) * d' := Int.mul_le_mul_of_nonneg_right hb2 hd'
      have e3 : (s.away * d) * d' = (s.away * d') * d := Int.mul_right_comm _ _ _
      have e4 : (s.away * d') * d ≤ (a' * s.den) * d := Int.mul_le_mul_of_nonneg_right h (by omega)
      have e5 : (a' * s.den) * d = (a' * d) * s.den := Int.mul_right_comm _ _ _
      omega
    exact Int.le_of_mul_le_mul_right q1 (by omega)
  · exact h

theorem near_q {N D d : Int} (hD : 1 ≤ D) : ((N * d - (N * d / D) * D).natAbs : Int) ≤ D ∧ ((N * d - (N * d / D + 1) * D).natAbs : Int) ≤ D ∧ ∀ n' : Int, ((N * d - (N * d / D) * D).natAbs : Int) ≤ ((N * d - n' * D).natAbs : Int) ∨ ((N * d - (N * d / D + 1) * D).natAbs : Int) ≤ ((N * d - n' * D).natAbs : Int) := by
  have q1 := Int.mul_ediv_add_emod (N * d) D
  have r1 := Int.emod_nonneg (N * d) (b := D) (by omega)
  have s1 := Int.emod_lt_of_pos (N * d) (b := D) (by omega)
  generalize N * d / D = q at *
  generalize N * d % D = r at *
  generalize N * d = X at *
  have e1 : D * q = q * D := Int.mul_comm _ _
  have e2 : (q + 1) * D = q * D + D := by rw [Int.add_mul, Int.one_mul]
  refine ⟨by omega, by omega, fun n' => ?_⟩
  rcases Int.lt_or_le q n' with c | c
  · right
    have : (q + 1) * D ≤ n' * D := Int.mul_le_mul_of_nonneg_right (by omega) (by omega)
    omega
  · left
    have : n' * D ≤ q * D := Int.mul_le_mul_of_nonneg_right (by omega) (by omega)
    omega

theorem q_bd {N D d : Int} (hD : 1 ≤ D) (hN : -1000000000 ≤ N ∧ N ≤ 1000000000) (hd : 1 ≤ d ∧ d ≤ 1000) : -1000000000000 ≤ N * d ∧ N * d ≤ 1000000000000 ∧ -1000000000001 ≤ N * d / D ∧ N * d / D ≤ 1000000000000 := by
  have h1 : N * d ≤ 1000000000 * d := Int.mul_le_mul_of_nonneg_right hN.2 (by omega)
  have h2 : -1000000000 * d ≤ N * d := Int.mul_le_mul_of_nonneg_right hN.1 (by omega)
  have q1 := Int.mul_ediv_add_emod (N * d) D
  have r1 := Int.emod_nonneg (N * d) (b := D) (by omega)
  have s1 := Int.emod_lt_of_pos (N * d) (b := D) (by omega)
  refine ⟨by omega, by omega, ?_, ?_⟩
  · rw [Int.le_ediv_iff_mul_le (by omega)]
    have : -1000000000001 * D ≤ -1000000000001 * 1 := Int.mul_le_mul_of_nonpos_left (by omega) (by omega)
    omega
  · rcases Int.le_total 0 (N * d) with c | c
    · exact Int.le_trans (Int.ediv_le_self _ c) (by omega)
    · have : N * d / D ≤ 0 := by
        have := Int.ediv_le_ediv (a := N * d) (b := 0) (c := D) (by omega) c
        simpa using this
      omega

theorem it_inv {N D K d : Int} {s : NS} (hD : 1 ≤ D) (hN : -1000000000 ≤ N ∧ N ≤ 1000000000) (hd : 1 ≤ d) (hd2 : d ≤ K) (hK : K ≤ 1000) (h : NI N D K s) : ∀ j : Nat, j ≤ 2 → NI N D K (it N D d (N * d / D) s j)
  | 0, _ => h
  | j + 1, hj => by
    have hq := q_bd hD hN ⟨hd, by omega⟩
    obtain ⟨a1, a2, -⟩ := near_q (N := N) (d := d) hD
    refine cand_inv (it_inv hD hN hd hd2 hK h j (by omega)) hd hd2 (by omega) ?_
    rcases (show j = 0 ∨ j = 1 by omega) with rfl | rfl
    · simpa using a1
    · simpa using a2

theorem NI.mono {N D K K' : Int} {s : NS} (h : NI N D K s) (hK : K ≤ K') : NI N D K' s := ⟨h.d0, Int.le_trans h.d1 hK, h.a0, h.a1, h.n0, h.n1, h.aw⟩

theorem nr_inv {N D : Int} (hD : 1 ≤ D) (hN : -1000000000 ≤ N ∧ N ≤ 1000000000) : ∀ k : Nat, k ≤ 1000 → NI N D (k : Int) (nr N D k)
  | 0, _ => ⟨Int.le_refl 0, Int.le_refl 0, Int.le_refl 0, by show (0 : Int) ≤ D; omega, by show -2000000000000 ≤ (0 : Int); omega, by show (0 : Int) ≤ 2000000000000; omega, fun h => absurd rfl h⟩
  | k + 1, hk => by
    have := it_inv (K := ((k + 1 : Nat) : Int)) hD hN (d := (k : Int) + 1) (by omega) (by omega) (by omega) ((nr_inv hD hN k (by omega)).mono (by omega)) 2 (by omega)
    exact this

theorem nr_best {N D : Int} (hD : 1 ≤ D) (hN : -1000000000 ≤ N ∧ N ≤ 1000000000) : ∀ k : Nat, k ≤ 1000 → (1 ≤ k → 1 ≤ (nr N D k).den) ∧ ∀ d n' : Int, 1 ≤ d → d ≤ k → (nr N D k).away * d ≤ ((N * d - n' * D).natAbs : Int) * (nr N D k).den
  | 0, _ => ⟨fun h => absurd h (by omega), fun d n' h1 h2 => absurd h2 (by omega)⟩
  | k + 1, hk => by
    obtain ⟨i1, i2⟩ := nr_best hD hN k (by omega)
    have iv := nr_inv hD hN k (by omega)
    obtain ⟨-, -, a3⟩ := near_q (N := N) (d := (k : Int) + 1) hD
    show (1 ≤ k + 1 → 1 ≤ (it N D ((k : Int) + 1) (N * ((k : Int) + 1) / D) (nr N D k) 2).den) ∧ ∀ d n' : Int, 1 ≤ d → d ≤ ((k + 1 : Nat) : Int) → (it N D ((k : Int) + 1) (N * ((k : Int) + 1) / D) (nr N D k) 2).away * d ≤ ((N * d - n' * D).natAbs : Int) * (it N D ((k : Int) + 1) (N * ((k : Int) + 1) / D) (nr N D k) 2).den
    generalize hq : N * ((k : Int) + 1) / D = q at *
    have e1 : it N D ((k : Int) + 1) q (nr N D k) 1 = cand N D ((k : Int) + 1) q (nr N D k) := by simp [it]
    have e2 : it N D ((k : Int) + 1) q (nr N D k) 2 = cand N D ((k : Int) + 1) (q + 1) (cand N D ((k : Int) + 1) q (nr N D k)) := by simp [it]
    rw [e2]
    have p1 : 1 ≤ (cand N D ((k : Int) + 1) q (nr N D k)).den := cand_pos iv.d0 (by omega)
    have p2 : 1 ≤ (cand N D ((k : Int) + 1) (q + 1) (cand N D ((k : Int) + 1) q (nr N D k))).den := cand_pos (by omega) (by omega)
    refine ⟨fun _ => p2, fun d n' h1 h2 => ?_⟩
    by_cases c : d ≤ (k : Int)
    · have hk1 : 1 ≤ k := by omega
      exact cand_keep p1 (by omega) (by omega) (cand_keep (i1 hk1) (by omega) (by omega) (i2 d n' h1 c))
    · obtain rfl : d = (k : Int) + 1 := by omega
      rcases a3 n' with g | g
      · have s1 := cand_self (N := N) (D := D) (d := (k : Int) + 1) (n := q) (s := nr N D k)
        have s2 := cand_keep (N := N) (D := D) (d := (k : Int) + 1) (n := q + 1) p1 (by omega) (show 0 ≤ (k : Int) + 1 by omega) s1
        exact Int.le_trans s2 (Int.mul_le_mul_of_nonneg_right g (by omega))
      · have s1 := cand_self (N := N) (D := D) (d := (k : Int) + 1) (n := q + 1) (s := cand N D ((k : Int) + 1) q (nr N D k))
        exact Int.le_trans s1 (Int.mul_le_mul_of_nonneg_right g (by omega))

theorem near_t {N D M : Int} (h : (near N D M).e = 0) : val N D = true ∧ 1 ≤ M ∧ M ≤ 1000 ∧ near N D M = out (rat (nr N D M.toNat).num (nr N D M.toNat).den) := by
  by_cases hc : (val N D && (decide (1 ≤ M) && decide (M ≤ 1000))) = true
  · have hh := hc
    simp only [Bool.and_eq_true, decide_eq_true_eq] at hh
    exact ⟨hh.1, hh.2.1, hh.2.2, by unfold near; rw [if_pos hc]⟩
  · exfalso; unfold near at h; rw [if_neg hc] at h; exact absurd h (by decide)

/-- what the law asks where Near answers -/
theorem near_ok {N D M : Int} (h : (near N D M).e = 0) : val N D = true ∧ 1 ≤ M ∧ M ≤ 1000 ∧ val (near N D M).n (near N D M).d = true ∧ (near N D M).d ≤ 1000 ∧ (D ≤ M → near N D M = ⟨N, D, 0⟩) ∧
    ((N * (near N D M).d - (near N D M).n * D).natAbs : Int) ≤ D ∧ ∀ n' d : Int, 1 ≤ d → d ≤ M → ((N * (near N D M).d - (near N D M).n * D).natAbs : Int) * d ≤ ((N * d - n' * D).natAbs : Int) * (near N D M).d := by
  obtain ⟨hv, m1, m2, e⟩ := near_t h
  rw [e] at h ⊢
  obtain ⟨x1, x2, x3, x4⟩ := val_bd hv
  have iv := nr_inv (N := N) (D := D) x1 ⟨x3, x4⟩ M.toNat (by omega)
  obtain ⟨b1, b2⟩ := nr_best (N := N) (D := D) x1 ⟨x3, x4⟩ M.toNat (by omega)
  have b1 := b1 (by omega)
  have aw := iv.aw (by omega)
  have d1 := iv.d1
  have a1 := iv.a1
  clear iv e
  generalize (nr N D M.toNat).num = n at *
  generalize (nr N D M.toNat).den = d at *
  generalize (nr N D M.toNat).away = a at *
  obtain ⟨o1, o2, o3⟩ := out_ok h
  obtain ⟨y1, y2, y3, y4⟩ := val_bd o1
  obtain ⟨k1, k2, k3⟩ := val_rat' o1
  obtain ⟨g, hg0, hg1, hg2⟩ : ∃ g : Int, g ≠ 0 ∧ n = (out (rat n d)).n * g ∧ d = (out (rat n d)).d * g := by
    have hz : d ≠ 0 := by omega
    obtain ⟨m, hm0, hm1, hm2⟩ := Rat.divInt_num_den hz (n' := (rat n d).num) (d' := (rat n d).den) (z' := (rat n d).den_nz) (c := (rat n d).reduced) rfl
    rw [o2] at k1 k2
    rw [k1] at hm1
    rw [k2] at hm2
    exact ⟨m, hm0, hm1, hm2⟩
  have hE : D ≤ M → rat N D = rat n d := by
    intro hM
    have h1 := b2 D N x1 (by omega)
    have h2 : N * D - N * D = 0 := by omega
    rw [h2] at h1
    have h3 : a * D ≤ 0 := by simpa using h1
    have h4 : a = 0 := by
      rcases Int.lt_or_le 0 a with c | c
      · have := Int.mul_le_mul_of_nonneg_right (show 1 ≤ a from c) (show 0 ≤ D by omega)
        omega
      · omega
    rw [h4] at aw
    exact (Rat.divInt_eq_divInt_iff (by omega) (by omega)).2 (by omega)
  have hX : ∀ nn dd : Int, n = nn * g → d = dd * g → a = ((N * dd - nn * D).natAbs : Int) * g.natAbs := by
    intro nn dd h1 h2
    have h3 : N * (dd * g) - nn * g * D = (N * dd - nn * D) * g := by
      rw [Int.sub_mul, Int.mul_assoc N, Int.mul_right_comm nn]
    rw [aw, h1, h2, h3, Int.natAbs_mul, Int.natCast_mul]
  have hX := hX _ _ hg1 hg2
  have gp : 1 ≤ g := by
    rcases Int.lt_or_le 0 g with c | c
    · exact c
    · have : (out (rat n d)).d * g ≤ 0 := Int.mul_nonpos_of_nonneg_of_nonpos (by omega) c
      omega
  have gq : (g.natAbs : Int) = g := by omega
  rw [gq] at hX
  have hdd : (out (rat n d)).d ≤ d := by
    have : (out (rat n d)).d * 1 ≤ (out (rat n d)).d * g := Int.mul_le_mul_of_nonneg_left gp (by omega)
    omega
  refine ⟨hv, m1, m2, o1, by omega, fun hM => by rw [← hE hM]; exact out_val hv, ?_, fun n' d' h1 h2 => ?_⟩
  · have : ((N * (out (rat n d)).d - (out (rat n d)).n * D).natAbs : Int) * 1 ≤ ((N * (out (rat n d)).d - (out (rat n d)).n * D).natAbs : Int) * g := Int.mul_le_mul_of_nonneg_left gp (by omega)
    omega
  · have hb := b2 d' n' h1 (by omega)
    generalize (out (rat n d)).d = dd at *
    generalize (out (rat n d)).n = nn at *
    generalize ((N * dd - nn * D).natAbs : Int) = X at *
    generalize ((N * d' - n' * D).natAbs : Int) = Y at *
    have e1 : (X * d') * g ≤ (Y * dd) * g := by
      rw [Int.mul_right_comm, ← hX, Int.mul_assoc, ← hg2]; exact hb
    exact Int.le_of_mul_le_mul_right e1 (by omega)
end Rt
end Go.Proofs.Ytlcgfhliaalccaa
