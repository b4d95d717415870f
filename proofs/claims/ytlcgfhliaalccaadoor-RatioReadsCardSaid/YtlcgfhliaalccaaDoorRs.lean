/- Orders and floors of ratios: plain, with no program in sight. -/
import Derived.Test.YtlcgfhliaalccaaDoorRt
set_option linter.unusedVariables false
set_option linter.unusedSimpArgs false
namespace Go.Proofs.YtlcgfhliaalccaaDoor
namespace Rt
/-- a number, or an error -/
structure R2 where
  v : Int
  e : Int
def cmp (n d m e : Int) : R2 := if val n d && val m e then ⟨if n * e < m * d then -1 else if m * d < n * e then 1 else 0, 0⟩ else ⟨0, 1⟩
def flo (n d : Int) : R2 := if val n d then ⟨n / d, 0⟩ else ⟨0, 1⟩
def cei (n d : Int) : R2 := if val n d then ⟨-(-n / d), 0⟩ else ⟨0, 1⟩
theorem fdiv_aux (a b q r : Int) (hb : 1 ≤ b) (e : a = b * q + r) (h0 : 0 ≤ r) (h1 : r < b) : a / b = q := by
  subst e
  rw [Int.add_comm, Int.add_mul_ediv_left _ _ (by omega), Int.ediv_eq_zero_of_lt h0 h1]; omega
theorem tmod_lt (a b : Int) (hb : 1 ≤ b) : a.tmod b < b ∧ -b < a.tmod b := by
  by_cases c : 0 ≤ a
  · rw [Int.tmod_eq_emod_of_nonneg c]
    have := Int.emod_nonneg a (b := b) (by omega)
    have := Int.emod_lt_of_pos a (b := b) (by omega)
    omega
  · have e : a.tmod b = -((-a).tmod b) := by rw [Int.neg_tmod]; omega
    rw [e, Int.tmod_eq_emod_of_nonneg (by omega)]
    have := Int.emod_nonneg (-a) (b := b) (by omega)
    have := Int.emod_lt_of_pos (-a) (b := b) (by omega)
    omega
theorem fdiv_neg (a b : Int) (hb : 1 ≤ b) (h : a.tmod b < 0) : a.tdiv b - 1 = a / b := by
  have h1 := Int.mul_tdiv_add_tmod a b
  have h2 := tmod_lt a b hb
  exact (fdiv_aux a b (a.tdiv b - 1) (a.tmod b + b) hb (by rw [Int.mul_sub]; omega) (by omega) (by omega)).symm
theorem fdiv_pos (a b : Int) (hb : 1 ≤ b) (h : 0 ≤ a.tmod b) : a.tdiv b = a / b := by
  have h1 := Int.mul_tdiv_add_tmod a b
  have h2 := tmod_lt a b hb
  exact (fdiv_aux a b (a.tdiv b) (a.tmod b) hb (by omega) (by omega) (by omega)).symm
end Rt
end Go.Proofs.YtlcgfhliaalccaaDoor
