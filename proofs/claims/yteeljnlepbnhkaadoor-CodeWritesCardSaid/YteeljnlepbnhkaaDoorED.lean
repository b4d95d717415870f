/- The reference: Operands, most, in, Opens. -/
import Derived.Test.YteeljnlepbnhkaaDoorEC
set_option linter.unusedVariables false
set_option linter.unusedSimpArgs false
namespace Go.Proofs.YteeljnlepbnhkaaDoor
open Go.RowKit Go.Sort
namespace Ec

theorem drewN_below {B : Nat} {a w : World} (h : Below B a w) (n : Nat) : Below B a (w.drewN n) := ⟨h.os, h.tape, h.output, h.size, h.block⟩
/-- how many operands -/
def opd (k : Nat) : Int := if (sp k).b = 0 then (if (sp k).a = 0 then 0 else 1) else 2
theorem rin_any (n lo hi : Int) (w : World) : Calls Tryd.prog 64 #[.int .i64 n, .int .i64 lo, .int .i64 hi] w fun e w' => e = .returned (.bool (decide (lo ≤ n) && decide (n ≤ hi))) ∧ w = w' := by
  by_cases h : lo ≤ n
  all_goals
    go_enter Tryd.func64, Tryd.ntmps64
    go_wp2_with fail
    go_ret
    exact ⟨ret_b (by simp [h] <;> omega), rfl⟩
def rmo (n : Int) (p : Bool) : Int := if p then 59 else n - 1
theorem rmost_any (n : Int) (p : Bool) (h0 : 0 ≤ n) (h1 : n ≤ 100) (w : World) : Calls Tryd.prog 65 #[.int .i64 n, .bool p] w fun e w' => e = .returned (.int .i64 (rmo n p)) ∧ w = w' := by
  cases p
  all_goals
    go_enter Tryd.func65, Tryd.ntmps65
    go_wp2_with fail
    go_ret
    exact ⟨ret_i (by simp [rmo]), rfl⟩
theorem rmost_10 (p : Bool) (w : World) : Calls Tryd.prog 65 #[.int .i64 10, .bool p] w fun e w' => e = .returned (.int .i64 (rmo 10 p)) ∧ w = w' := rmost_any 10 p (by omega) (by omega) w
theorem rmost_7 (p : Bool) (w : World) : Calls Tryd.prog 65 #[.int .i64 7, .bool p] w fun e w' => e = .returned (.int .i64 (rmo 7 p)) ∧ w = w' := rmost_any 7 p (by omega) (by omega) w
theorem rmost_16 (p : Bool) (w : World) : Calls Tryd.prog 65 #[.int .i64 16, .bool p] w fun e w' => e = .returned (.int .i64 (rmo 16 p)) ∧ w = w' := rmost_any 16 p (by omega) (by omega) w
theorem rOpens_any (op : Int) (w : World) : Calls Tryd.prog 43 #[.int .i64 op] w fun e w' => e = .returned (.bool (opn op)) ∧ w = w' := by
  by_cases h : 29 ≤ op
  all_goals
    go_enter Tryd.func43, Tryd.ntmps43
    go_wp2_with fail
    go_ret
    exact ⟨ret_b (by simp [opn, h] <;> omega), rfl⟩
theorem rOperands_0 (w : World) : Calls Tryd.prog 22 #[.int .i64 0] w fun e w' => e = .returned (.tuple #[.int .i64 0, .int .i64 0]) ∧ w = w' := by
  go_enter Tryd.func22, Tryd.ntmps22
  go_wp2_with fail
  go_ret2
  exact ⟨rfl, rfl⟩
theorem rOperands_1 (w : World) : Calls Tryd.prog 22 #[.int .i64 1] w fun e w' => e = .returned (.tuple #[.int .i64 1, .int .i64 0]) ∧ w = w' := by
  go_enter Tryd.func22, Tryd.ntmps22
  go_wp2_with fail
  go_ret2
  exact ⟨rfl, rfl⟩
theorem rOperands_2 (w : World) : Calls Tryd.prog 22 #[.int .i64 2] w fun e w' => e = .returned (.tuple #[.int .i64 1, .int .i64 0]) ∧ w = w' := by
  go_enter Tryd.func22, Tryd.ntmps22
  go_wp2_with fail
  go_ret2
  exact ⟨rfl, rfl⟩
theorem rOperands_3 (w : World) : Calls Tryd.prog 22 #[.int .i64 3] w fun e w' => e = .returned (.tuple #[.int .i64 1, .int .i64 0]) ∧ w = w' := by
  go_enter Tryd.func22, Tryd.ntmps22
  go_wp2_with fail
  go_ret2
  exact ⟨rfl, rfl⟩
theorem rOperands_4 (w : World) : Calls Tryd.prog 22 #[.int .i64 4] w fun e w' => e = .returned (.tuple #[.int .i64 0, .int .i64 0]) ∧ w = w' := by
  go_enter Tryd.func22, Tryd.ntmps22
  go_wp2_with fail
  go_ret2
  exact ⟨rfl, rfl⟩
theorem rOperands_5 (w : World) : Calls Tryd.prog 22 #[.int .i64 5] w fun e w' => e = .returned (.tuple #[.int .i64 0, .int .i64 0]) ∧ w = w' := by
  go_enter Tryd.func22, Tryd.ntmps22
  go_wp2_with fail
  go_ret2
  exact ⟨rfl, rfl⟩
theorem rOperands_6 (w : World) : Calls Tryd.prog 22 #[.int .i64 6] w fun e w' => e = .returned (.tuple #[.int .i64 0, .int .i64 0]) ∧ w = w' := by
  go_enter Tryd.func22, Tryd.ntmps22
  go_wp2_with fail
  go_ret2
  exact ⟨rfl, rfl⟩
theorem rOperands_7 (w : World) : Calls Tryd.prog 22 #[.int .i64 7] w fun e w' => e = .returned (.tuple #[.int .i64 0, .int .i64 0]) ∧ w = w' := by
  go_enter Tryd.func22, Tryd.ntmps22
  go_wp2_with fail
  go_ret2
  exact ⟨rfl, rfl⟩
theorem rOperands_8 (w : World) : Calls Tryd.prog 22 #[.int .i64 8] w fun e w' => e = .returned (.tuple #[.int .i64 0, .int .i64 0]) ∧ w = w' := by
  go_enter Tryd.func22, Tryd.ntmps22
  go_wp2_with fail
  go_ret2
  exact ⟨rfl, rfl⟩
theorem rOperands_9 (w : World) : Calls Tryd.prog 22 #[.int .i64 9] w fun e w' => e = .returned (.tuple #[.int .i64 0, .int .i64 0]) ∧ w = w' := by
  go_enter Tryd.func22, Tryd.ntmps22
  go_wp2_with fail
  go_ret2
  exact ⟨rfl, rfl⟩
theorem rOperands_10 (w : World) : Calls Tryd.prog 22 #[.int .i64 10] w fun e w' => e = .returned (.tuple #[.int .i64 0, .int .i64 0]) ∧ w = w' := by
  go_enter Tryd.func22, Tryd.ntmps22
  go_wp2_with fail
  go_ret2
  exact ⟨rfl, rfl⟩
theorem rOperands_11 (w : World) : Calls Tryd.prog 22 #[.int .i64 11] w fun e w' => e = .returned (.tuple #[.int .i64 0, .int .i64 0]) ∧ w = w' := by
  go_enter Tryd.func22, Tryd.ntmps22
  go_wp2_with fail
  go_ret2
  exact ⟨rfl, rfl⟩
theorem rOperands_12 (w : World) : Calls Tryd.prog 22 #[.int .i64 12] w fun e w' => e = .returned (.tuple #[.int .i64 2, .int .i64 0]) ∧ w = w' := by
  go_enter Tryd.func22, Tryd.ntmps22
  go_wp2_with fail
  go_ret2
  exact ⟨rfl, rfl⟩
theorem rOperands_13 (w : World) : Calls Tryd.prog 22 #[.int .i64 13] w fun e w' => e = .returned (.tuple #[.int .i64 0, .int .i64 0]) ∧ w = w' := by
  go_enter Tryd.func22, Tryd.ntmps22
  go_wp2_with fail
  go_ret2
  exact ⟨rfl, rfl⟩
theorem rOperands_14 (w : World) : Calls Tryd.prog 22 #[.int .i64 14] w fun e w' => e = .returned (.tuple #[.int .i64 1, .int .i64 0]) ∧ w = w' := by
  go_enter Tryd.func22, Tryd.ntmps22
  go_wp2_with fail
  go_ret2
  exact ⟨rfl, rfl⟩
theorem rOperands_15 (w : World) : Calls Tryd.prog 22 #[.int .i64 15] w fun e w' => e = .returned (.tuple #[.int .i64 1, .int .i64 0]) ∧ w = w' := by
  go_enter Tryd.func22, Tryd.ntmps22
  go_wp2_with fail
  go_ret2
  exact ⟨rfl, rfl⟩
theorem rOperands_16 (w : World) : Calls Tryd.prog 22 #[.int .i64 16] w fun e w' => e = .returned (.tuple #[.int .i64 2, .int .i64 0]) ∧ w = w' := by
  go_enter Tryd.func22, Tryd.ntmps22
  go_wp2_with fail
  go_ret2
  exact ⟨rfl, rfl⟩
theorem rOperands_17 (w : World) : Calls Tryd.prog 22 #[.int .i64 17] w fun e w' => e = .returned (.tuple #[.int .i64 1, .int .i64 0]) ∧ w = w' := by
  go_enter Tryd.func22, Tryd.ntmps22
  go_wp2_with fail
  go_ret2
  exact ⟨rfl, rfl⟩
theorem rOperands_18 (w : World) : Calls Tryd.prog 22 #[.int .i64 18] w fun e w' => e = .returned (.tuple #[.int .i64 1, .int .i64 0]) ∧ w = w' := by
  go_enter Tryd.func22, Tryd.ntmps22
  go_wp2_with fail
  go_ret2
  exact ⟨rfl, rfl⟩
theorem rOperands_19 (w : World) : Calls Tryd.prog 22 #[.int .i64 19] w fun e w' => e = .returned (.tuple #[.int .i64 0, .int .i64 0]) ∧ w = w' := by
  go_enter Tryd.func22, Tryd.ntmps22
  go_wp2_with fail
  go_ret2
  exact ⟨rfl, rfl⟩
theorem rOperands_20 (w : World) : Calls Tryd.prog 22 #[.int .i64 20] w fun e w' => e = .returned (.tuple #[.int .i64 0, .int .i64 0]) ∧ w = w' := by
  go_enter Tryd.func22, Tryd.ntmps22
  go_wp2_with fail
  go_ret2
  exact ⟨rfl, rfl⟩
theorem rOperands_21 (w : World) : Calls Tryd.prog 22 #[.int .i64 21] w fun e w' => e = .returned (.tuple #[.int .i64 0, .int .i64 0]) ∧ w = w' := by
  go_enter Tryd.func22, Tryd.ntmps22
  go_wp2_with fail
  go_ret2
  exact ⟨rfl, rfl⟩
theorem rOperands_22 (w : World) : Calls Tryd.prog 22 #[.int .i64 22] w fun e w' => e = .returned (.tuple #[.int .i64 1, .int .i64 0]) ∧ w = w' := by
  go_enter Tryd.func22, Tryd.ntmps22
  go_wp2_with fail
  go_ret2
  exact ⟨rfl, rfl⟩
theorem rOperands_23 (w : World) : Calls Tryd.prog 22 #[.int .i64 23] w fun e w' => e = .returned (.tuple #[.int .i64 1, .int .i64 0]) ∧ w = w' := by
  go_enter Tryd.func22, Tryd.ntmps22
  go_wp2_with fail
  go_ret2
  exact ⟨rfl, rfl⟩
theorem rOperands_24 (w : World) : Calls Tryd.prog 22 #[.int .i64 24] w fun e w' => e = .returned (.tuple #[.int .i64 1, .int .i64 0]) ∧ w = w' := by
  go_enter Tryd.func22, Tryd.ntmps22
  go_wp2_with fail
  go_ret2
  exact ⟨rfl, rfl⟩
theorem rOperands_25 (w : World) : Calls Tryd.prog 22 #[.int .i64 25] w fun e w' => e = .returned (.tuple #[.int .i64 1, .int .i64 0]) ∧ w = w' := by
  go_enter Tryd.func22, Tryd.ntmps22
  go_wp2_with fail
  go_ret2
  exact ⟨rfl, rfl⟩
theorem rOperands_26 (w : World) : Calls Tryd.prog 22 #[.int .i64 26] w fun e w' => e = .returned (.tuple #[.int .i64 1, .int .i64 0]) ∧ w = w' := by
  go_enter Tryd.func22, Tryd.ntmps22
  go_wp2_with fail
  go_ret2
  exact ⟨rfl, rfl⟩
theorem rOperands_27 (w : World) : Calls Tryd.prog 22 #[.int .i64 27] w fun e w' => e = .returned (.tuple #[.int .i64 1, .int .i64 0]) ∧ w = w' := by
  go_enter Tryd.func22, Tryd.ntmps22
  go_wp2_with fail
  go_ret2
  exact ⟨rfl, rfl⟩
theorem rOperands_28 (w : World) : Calls Tryd.prog 22 #[.int .i64 28] w fun e w' => e = .returned (.tuple #[.int .i64 1, .int .i64 0]) ∧ w = w' := by
  go_enter Tryd.func22, Tryd.ntmps22
  go_wp2_with fail
  go_ret2
  exact ⟨rfl, rfl⟩
theorem rOperands_29 (w : World) : Calls Tryd.prog 22 #[.int .i64 29] w fun e w' => e = .returned (.tuple #[.int .i64 0, .int .i64 0]) ∧ w = w' := by
  go_enter Tryd.func22, Tryd.ntmps22
  go_wp2_with fail
  go_ret2
  exact ⟨rfl, rfl⟩
theorem rOperands_30 (w : World) : Calls Tryd.prog 22 #[.int .i64 30] w fun e w' => e = .returned (.tuple #[.int .i64 2, .int .i64 0]) ∧ w = w' := by
  go_enter Tryd.func22, Tryd.ntmps22
  go_wp2_with fail
  go_ret2
  exact ⟨rfl, rfl⟩
theorem rOperands_31 (w : World) : Calls Tryd.prog 22 #[.int .i64 31] w fun e w' => e = .returned (.tuple #[.int .i64 1, .int .i64 0]) ∧ w = w' := by
  go_enter Tryd.func22, Tryd.ntmps22
  go_wp2_with fail
  go_ret2
  exact ⟨rfl, rfl⟩
theorem rOperands_32 (w : World) : Calls Tryd.prog 22 #[.int .i64 32] w fun e w' => e = .returned (.tuple #[.int .i64 1, .int .i64 0]) ∧ w = w' := by
  go_enter Tryd.func22, Tryd.ntmps22
  go_wp2_with fail
  go_ret2
  exact ⟨rfl, rfl⟩
theorem rOperands_33 (w : World) : Calls Tryd.prog 22 #[.int .i64 33] w fun e w' => e = .returned (.tuple #[.int .i64 0, .int .i64 0]) ∧ w = w' := by
  go_enter Tryd.func22, Tryd.ntmps22
  go_wp2_with fail
  go_ret2
  exact ⟨rfl, rfl⟩
theorem rOperands_34 (w : World) : Calls Tryd.prog 22 #[.int .i64 34] w fun e w' => e = .returned (.tuple #[.int .i64 0, .int .i64 0]) ∧ w = w' := by
  go_enter Tryd.func22, Tryd.ntmps22
  go_wp2_with fail
  go_ret2
  exact ⟨rfl, rfl⟩
theorem rOperands_35 (w : World) : Calls Tryd.prog 22 #[.int .i64 35] w fun e w' => e = .returned (.tuple #[.int .i64 0, .int .i64 0]) ∧ w = w' := by
  go_enter Tryd.func22, Tryd.ntmps22
  go_wp2_with fail
  go_ret2
  exact ⟨rfl, rfl⟩
theorem rOperands_bad (op : Int) (hk : op < 0 ∨ (¬ op < 0 ∧ 35 < op)) (w : World) : Calls Tryd.prog 22 #[.int .i64 op] w fun e w' => e = .returned (.tuple #[.int .i64 0, .int .i64 3]) ∧ w = w' := by
  have e0 : (op == 0) = false := by simp; omega
  have e1 : (op == 1) = false := by simp; omega
  have e2 : (op == 2) = false := by simp; omega
  have e3 : (op == 3) = false := by simp; omega
  have e4 : (op == 4) = false := by simp; omega
  have e5 : (op == 5) = false := by simp; omega
  have e6 : (op == 6) = false := by simp; omega
  have e7 : (op == 7) = false := by simp; omega
  have e8 : (op == 8) = false := by simp; omega
  have e9 : (op == 9) = false := by simp; omega
  have e10 : (op == 10) = false := by simp; omega
  have e11 : (op == 11) = false := by simp; omega
  have e12 : (op == 12) = false := by simp; omega
  have e13 : (op == 13) = false := by simp; omega
  have e14 : (op == 14) = false := by simp; omega
  have e15 : (op == 15) = false := by simp; omega
  have e16 : (op == 16) = false := by simp; omega
  have e17 : (op == 17) = false := by simp; omega
  have e18 : (op == 18) = false := by simp; omega
  have e19 : (op == 19) = false := by simp; omega
  have e20 : (op == 20) = false := by simp; omega
  have e21 : (op == 21) = false := by simp; omega
  have e22 : (op == 22) = false := by simp; omega
  have e23 : (op == 23) = false := by simp; omega
  have e24 : (op == 24) = false := by simp; omega
  have e25 : (op == 25) = false := by simp; omega
  have e26 : (op == 26) = false := by simp; omega
  have e27 : (op == 27) = false := by simp; omega
  have e28 : (op == 28) = false := by simp; omega
  have e29 : (op == 29) = false := by simp; omega
  have e30 : (op == 30) = false := by simp; omega
  have e31 : (op == 31) = false := by simp; omega
  have e32 : (op == 32) = false := by simp; omega
  have e33 : (op == 33) = false := by simp; omega
  have e34 : (op == 34) = false := by simp; omega
  have e35 : (op == 35) = false := by simp; omega
  rcases hk with hk | ⟨hk, hk2⟩
  all_goals
    go_enter Tryd.func22, Tryd.ntmps22
    go_wp2_with fail
    go_ret2
    exact ⟨rfl, rfl⟩
end Ec
end Go.Proofs.YteeljnlepbnhkaaDoor
