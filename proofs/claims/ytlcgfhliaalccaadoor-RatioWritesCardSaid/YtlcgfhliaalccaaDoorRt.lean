/- Ratios: plain, with no program in sight. -/
set_option linter.unusedVariables false
set_option linter.unusedSimpArgs false
namespace Go.Proofs.YtlcgfhliaalccaaDoor
namespace Rt
/-- the greatest numerator and denominator -/
def B : Int := 1000000000

/-- is a ratio valid? -/
def val (n d : Int) : Bool := decide (1 ≤ d ∧ d ≤ 1000000000 ∧ -1000000000 ≤ n ∧ n ≤ 1000000000 ∧ Int.gcd n d = 1)


theorem val_iff (n d : Int) : val n d = true ↔ ∃ r : Rat, r.num = n ∧ (r.den : Int) = d ∧ -1000000000 ≤ n ∧ n ≤ 1000000000 ∧ d ≤ 1000000000 := by
  unfold val
  rw [decide_eq_true_iff]
  constructor
  · rintro ⟨h1, h2, h3, h4, h5⟩
    refine ⟨⟨n, d.toNat, by omega, ?_⟩, rfl, by simp; omega, h3, h4, h2⟩
    unfold Nat.Coprime
    rw [← h5]; unfold Int.gcd; congr 1; omega
  · rintro ⟨r, rfl, rfl, h1, h2, h3⟩
    refine ⟨by have := r.den_pos; omega, h3, h1, h2, ?_⟩
    have := r.reduced
    unfold Nat.Coprime at this
    rw [← this]; unfold Int.gcd; simp

theorem val_rat (r : Rat) : val r.num r.den = decide (-1000000000 ≤ r.num ∧ r.num ≤ 1000000000 ∧ (r.den : Int) ≤ 1000000000) := by
  rw [Bool.eq_iff_iff, val_iff]
  simp only [decide_eq_true_iff]
  constructor
  · rintro ⟨q, h1, h2, h3, h4, h5⟩; exact ⟨h3, h4, h5⟩
  · rintro ⟨h3, h4, h5⟩; exact ⟨r, rfl, rfl, h3, h4, h5⟩

/-- what 'lowest' reckons: both divided by the greatest common divisor, the denominator made positive -/
theorem low_num (n d : Int) (hd : d ≠ 0) : (if d < 0 then -n else n).tdiv (Int.gcd n d) = (Rat.divInt n d).num ∧ (if d < 0 then -d else d).tdiv (Int.gcd n d) = ((Rat.divInt n d).den : Int) := by
  have hg : (0 : Int) < (Int.gcd n d : Int) := by
    have : Int.gcd n d ≠ 0 := by
      intro h; rw [Int.gcd_eq_zero_iff] at h; exact hd h.2
    omega
  obtain ⟨a, ha⟩ := Int.gcd_dvd_left (a := n) (b := d)
  obtain ⟨b, hb⟩ := Int.gcd_dvd_right (a := n) (b := d)
  rw [Rat.num_divInt, Rat.den_divInt]
  rw [Int.gcd_comm d n, if_neg hd]
  generalize (Int.gcd n d : Nat) = g at *
  constructor
  · split
    · rename_i h
      rw [Int.sign_eq_neg_one_of_neg h, ha, ← Int.mul_neg, Int.mul_tdiv_cancel_left _ (by omega), Int.neg_mul, Int.one_mul, ← Int.mul_neg, Int.mul_ediv_cancel_left _ (by omega)]
    · rename_i h
      rw [Int.sign_eq_one_of_pos (by omega), ha, Int.mul_tdiv_cancel_left _ (by omega), Int.one_mul, Int.mul_ediv_cancel_left _ (by omega)]
  · have hn : ((d.natAbs / g : Nat) : Int) = (d.natAbs : Int) / (g : Int) := by simp
    rw [hn]
    split
    · rename_i h
      rw [show (d.natAbs : Int) = -d by omega, hb, ← Int.mul_neg, Int.mul_tdiv_cancel_left _ (by omega), Int.mul_ediv_cancel_left _ (by omega)]
    · rename_i h
      rw [show (d.natAbs : Int) = d by omega, hb, Int.mul_tdiv_cancel_left _ (by omega), Int.mul_ediv_cancel_left _ (by omega)]
/-- a ratio, or an error -/
structure R3 where
  n : Int
  d : Int
  e : Int
def inB (r : Rat) : Bool := decide (-1000000000 ≤ r.num ∧ r.num ≤ 1000000000 ∧ (r.den : Int) ≤ 1000000000)
/-- a rational number as a ratio, where it fits -/
def out (r : Rat) : R3 := if inB r then ⟨r.num, r.den, 0⟩ else ⟨0, 0, 6⟩
/-- the rational number of a numerator and a denominator -/
def rat (n d : Int) : Rat := Rat.divInt n d
def big (n : Int) : Bool := decide (-1000000000000000000 ≤ n) && decide (n ≤ 1000000000000000000)
def mk (n d : Int) : R3 := if big n && big d then (if d = 0 then ⟨0, 0, 5⟩ else out (rat n d)) else ⟨0, 0, 1⟩
def add (n d m e : Int) : R3 := if val n d && val m e then out (rat n d + rat m e) else ⟨0, 0, 1⟩
def sub (n d m e : Int) : R3 := if val n d && val m e then out (rat n d - rat m e) else ⟨0, 0, 1⟩
def mul (n d m e : Int) : R3 := if val n d && val m e then out (rat n d * rat m e) else ⟨0, 0, 1⟩
def dv (n d m e : Int) : R3 := if val n d && val m e then (if m = 0 then ⟨0, 0, 5⟩ else out (rat n d / rat m e)) else ⟨0, 0, 1⟩

theorem rat_self (r : Rat) : rat r.num r.den = r := by
  unfold rat; exact Rat.num_divInt_den r
theorem val_bd {n d : Int} (h : val n d = true) : 1 ≤ d ∧ d ≤ 1000000000 ∧ -1000000000 ≤ n ∧ n ≤ 1000000000 := by
  unfold val at h; have := of_decide_eq_true h; omega
theorem val_rat' {n d : Int} (h : val n d = true) : (rat n d).num = n ∧ ((rat n d).den : Int) = d ∧ inB (rat n d) = true := by
  obtain ⟨r, rfl, rfl, h3, h4, h5⟩ := (val_iff n d).1 h
  rw [rat_self]
  exact ⟨rfl, rfl, decide_eq_true ⟨h3, h4, h5⟩⟩
theorem out_val {n d : Int} (h : val n d = true) : out (rat n d) = ⟨n, d, 0⟩ := by
  obtain ⟨h1, h2, h3⟩ := val_rat' h
  unfold out; rw [if_pos h3, h1, h2]
theorem out_ok {r : Rat} (h : (out r).e = 0) : val (out r).n (out r).d = true ∧ rat (out r).n (out r).d = r ∧ inB r = true := by
  unfold out at *
  split at h
  · rename_i g
    rw [if_pos g]
    refine ⟨?_, rat_self r, g⟩
    rw [val_rat]; exact g
  · exact absurd h (by decide)
theorem out_01 (r : Rat) : (out r).e = 0 ∨ (out r).e = 6 := by unfold out; split <;> simp
theorem out_no {r : Rat} (h : (out r).e ≠ 0) : out r = ⟨0, 0, 6⟩ := by
  unfold out at *; split
  · rename_i g; rw [if_pos g] at h; exact absurd rfl h
  · rfl
theorem add_comm (n d m e : Int) : add m e n d = add n d m e := by
  unfold add; rw [Rat.add_comm, Bool.and_comm]
theorem mul_comm (n d m e : Int) : mul m e n d = mul n d m e := by
  unfold mul; rw [Rat.mul_comm, Bool.and_comm]
theorem add_ok {n d m e : Int} (h : (add n d m e).e = 0) : val n d = true ∧ val m e = true ∧ val (add n d m e).n (add n d m e).d = true ∧ rat (add n d m e).n (add n d m e).d = rat n d + rat m e := by
  unfold add at *
  split at h
  · rename_i g
    rw [if_pos g]; simp only [Bool.and_eq_true] at g
    have := out_ok h; exact ⟨g.1, g.2, this.1, this.2.1⟩
  · exact absurd h (by decide)
theorem mul_ok {n d m e : Int} (h : (mul n d m e).e = 0) : val n d = true ∧ val m e = true ∧ val (mul n d m e).n (mul n d m e).d = true ∧ rat (mul n d m e).n (mul n d m e).d = rat n d * rat m e := by
  unfold mul at *
  split at h
  · rename_i g
    rw [if_pos g]; simp only [Bool.and_eq_true] at g
    have := out_ok h; exact ⟨g.1, g.2, this.1, this.2.1⟩
  · exact absurd h (by decide)
theorem sub_add {n d m e : Int} (h : (add n d m e).e = 0) : sub (add n d m e).n (add n d m e).d m e = ⟨n, d, 0⟩ := by
  obtain ⟨h1, h2, h3, h4⟩ := add_ok h
  unfold sub; rw [h3, h2, h4]
  rw [show rat n d + rat m e - rat m e = rat n d by grind]
  simp [out_val h1]
theorem rat_ne {n d : Int} (h : val n d = true) (hn : n ≠ 0) : rat n d ≠ 0 := by
  intro e
  have := (val_rat' h).1
  rw [e] at this; simp at this; exact hn this.symm
theorem dv_mul {n d m e : Int} (h : (mul n d m e).e = 0) (hm : m ≠ 0) : dv (mul n d m e).n (mul n d m e).d m e = ⟨n, d, 0⟩ := by
  obtain ⟨h1, h2, h3, h4⟩ := mul_ok h
  have hz := rat_ne h2 hm
  unfold dv; rw [h3, h2, h4]
  have e2 : rat n d * rat m e / rat m e = rat n d := by
    generalize rat n d = x at *; generalize rat m e = y at *
    rw [Rat.div_def, Rat.mul_assoc, Rat.mul_inv_cancel _ hz, Rat.mul_one]
  rw [e2]
  simp [out_val h1, hm]
theorem add_rat {n d m e : Int} (hd : d ≠ 0) (he : e ≠ 0) : rat n d + rat m e = rat (n * e + m * d) (d * e) := by
  unfold rat; rw [Rat.divInt_add_divInt _ _ hd he]
theorem sub_rat {n d m e : Int} (hd : d ≠ 0) (he : e ≠ 0) : rat n d - rat m e = rat (n * e - m * d) (d * e) := by
  unfold rat; rw [Rat.divInt_sub_divInt _ _ hd he]
theorem mul_rat {n d m e : Int} : rat n d * rat m e = rat (n * m) (d * e) := by
  unfold rat; rw [Rat.divInt_mul_divInt]
theorem dv_rat {n d m e : Int} : rat n d / rat m e = rat (n * e) (d * m) := by
  unfold rat; rw [Rat.div_def, Rat.inv_divInt, Rat.divInt_mul_divInt]
theorem mk_ok {n d : Int} (h : (mk n d).e = 0) : val (mk n d).n (mk n d).d = true := by
  unfold mk at *
  split at h
  · rename_i g
    rw [if_pos g]
    split at h
    · exact absurd h (by decide)
    · rename_i g2; rw [if_neg g2]; exact (out_ok h).1
  · exact absurd h (by decide)
end Rt
end Go.Proofs.YtlcgfhliaalccaaDoor
