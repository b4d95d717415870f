/- The reference: Valid, of the operations with two operands. -/
import Derived.Test.YteeljnlepbnhkaaDoorED
set_option linter.unusedVariables false
set_option linter.unusedSimpArgs false
namespace Go.Proofs.YteeljnlepbnhkaaDoor
open Go.RowKit Go.Sort
namespace Ec

set_option maxHeartbeats 4000000 in
theorem rin_b (n lo hi : Int) (v : Bool) (h : (decide (lo ≤ n) && decide (n ≤ hi)) = v) (w : World) : Calls Tryd.prog 64 #[.int .i64 n, .int .i64 lo, .int .i64 hi] w fun e w' => e = .returned (.bool v) ∧ w = w' := by
  subst h; exact rin_any n lo hi w
set_option maxHeartbeats 4000000 in
theorem rValid_30 (a b : Int) (p : Bool) (w : World) :
    Calls Tryd.prog 51 #[.agg #[.int .i64 30, .int .i64 a, .int .i64 b], .bool p] w fun e w' => e = .returned (.bool (vld 30 a b p)) ∧ Below w.heap.size w w' := by
  have HV := hide (vld_nat 30 (by omega) a b p)
  have s1 : (sp 30).a = 12 := rfl
  have s2 : (sp 30).b = 2 := rfl
  rw [s1, s2] at HV
  clear s1 s2
  by_cases ha : 0 ≤ a ∧ a ≤ 50
  · obtain ⟨h1, h2⟩ := ha
    go_enter Tryd.func51, Tryd.ntmps51
    go_wp2_with (first | (go_at_call 22; refine (rOperands_30 _).mono ?_; rintro e ws ⟨rfl, rfl⟩) | (go_at_call 64; refine (rin_any _ _ _ _).mono ?_; rintro e ws ⟨rfl, rfl⟩))
    go_ret
    exact ⟨ret_b (Eq.trans (by first | (simp [rng, mosts, rmo, h1, h2]; done) | (simp [rng, mosts, rmo, h1, h2]; omega) | (rw [Bool.eq_iff_iff]; simp [rng, mosts, rmo, h1, h2] <;> omega)) HV.out.symm), by go_grown⟩
  · have hc : ¬ 0 ≤ a ∨ (0 ≤ a ∧ ¬ a ≤ 50) := by omega
    rcases hc with h1 | ⟨h1, h2⟩
    all_goals
      go_enter Tryd.func51, Tryd.ntmps51
      go_wp2_with (first | (go_at_call 22; refine (rOperands_30 _).mono ?_; rintro e ws ⟨rfl, rfl⟩) | (go_at_call 64; refine (rin_any _ _ _ _).mono ?_; rintro e ws ⟨rfl, rfl⟩))
      go_ret
      exact ⟨ret_b (Eq.trans (by first | (simp [rng, mosts, rmo]; done) | (simp [rng, mosts, rmo]; omega) | (rw [Bool.eq_iff_iff]; simp [rng, mosts, rmo] <;> omega)) HV.out.symm), by go_grown⟩
set_option maxHeartbeats 4000000 in
theorem rValid_16 (a b : Int) (p : Bool) (w : World) :
    Calls Tryd.prog 51 #[.agg #[.int .i64 16, .int .i64 a, .int .i64 b], .bool p] w fun e w' => e = .returned (.bool (vld 16 a b p)) ∧ Below w.heap.size w w' := by
  have HV := hide (vld_nat 16 (by omega) a b p)
  have s1 : (sp 16).a = 5 := rfl
  have s2 : (sp 16).b = 4 := rfl
  rw [s1, s2] at HV
  clear s1 s2
  cases p
  case false =>
    by_cases ha : 0 ≤ a ∧ a ≤ 48
    · obtain ⟨h1, h2⟩ := ha
      have hA : (decide (0 ≤ a) && decide (a ≤ 48)) = true := by simp [h1, h2]
      go_enter Tryd.func51, Tryd.ntmps51
      go_wp2_with (first | (go_at_call 22; refine (rOperands_16 _).mono ?_; rintro e ws ⟨rfl, rfl⟩) | (go_at_call 64; refine (rin_any _ _ _ _).mono ?_; rintro e ws ⟨rfl, rfl⟩))
      go_quiet ((first | (go_at_call 64; with_reducible exact Calls.quiet_of_same ((rin_b a 0 48 true hA _).mono (fun _ _ h => ⟨h.1, h.2.symm⟩))) | (go_at_call 65; with_reducible exact Calls.quiet_of_same ((rmost_10 false _).mono (fun _ _ h => ⟨h.1, h.2.symm⟩))) | (go_at_call 64; with_reducible exact Calls.quiet_of_same ((rin_any b 0 (rmo 10 false) _).mono (fun _ _ h => ⟨h.1, h.2.symm⟩)))))
      go_wp2_with fail
      go_ret
      exact ⟨ret_b (Eq.trans (by first | (simp [rng, mosts, rmo, h1, h2]; done) | (simp [rng, mosts, rmo, h1, h2]; omega) | (rw [Bool.eq_iff_iff]; simp [rng, mosts, rmo, h1, h2] <;> omega)) HV.out.symm), drewN_below (by go_grown) _⟩
    · have hA : (decide (0 ≤ a) && decide (a ≤ 48)) = false := by simp; omega
      have hB : rng a 5 false = false := by simp [rng, mosts]; omega
      go_enter Tryd.func51, Tryd.ntmps51
      go_wp2_with (first | (go_at_call 22; refine (rOperands_16 _).mono ?_; rintro e ws ⟨rfl, rfl⟩) | (go_at_call 64; refine (rin_any _ _ _ _).mono ?_; rintro e ws ⟨rfl, rfl⟩))
      go_quiet ((first | (go_at_call 64; with_reducible exact Calls.quiet_of_same ((rin_b a 0 48 false hA _).mono (fun _ _ h => ⟨h.1, h.2.symm⟩)))))
      go_wp2_with fail
      go_ret
      exact ⟨ret_b (Eq.trans (by first | (simp [rng, mosts, rmo, hB]; done) | (simp [rng, mosts, rmo, hB]; omega) | (rw [Bool.eq_iff_iff]; simp [rng, mosts, rmo, hB] <;> omega)) HV.out.symm), drewN_below (by go_grown) _⟩
  case true =>
    by_cases ha : 0 ≤ a ∧ a ≤ 48
    · obtain ⟨h1, h2⟩ := ha
      have hA : (decide (0 ≤ a) && decide (a ≤ 48)) = true := by simp [h1, h2]
      go_enter Tryd.func51, Tryd.ntmps51
      go_wp2_with (first | (go_at_call 22; refine (rOperands_16 _).mono ?_; rintro e ws ⟨rfl, rfl⟩) | (go_at_call 64; refine (rin_any _ _ _ _).mono ?_; rintro e ws ⟨rfl, rfl⟩))
      go_quiet ((first | (go_at_call 64; with_reducible exact Calls.quiet_of_same ((rin_b a 0 48 true hA _).mono (fun _ _ h => ⟨h.1, h.2.symm⟩))) | (go_at_call 65; with_reducible exact Calls.quiet_of_same ((rmost_10 true _).mono (fun _ _ h => ⟨h.1, h.2.symm⟩))) | (go_at_call 64; with_reducible exact Calls.quiet_of_same ((rin_any b 0 (rmo 10 true) _).mono (fun _ _ h => ⟨h.1, h.2.symm⟩)))))
      go_wp2_with fail
      go_ret
      exact ⟨ret_b (Eq.trans (by first | (simp [rng, mosts, rmo, h1, h2]; done) | (simp [rng, mosts, rmo, h1, h2]; omega) | (rw [Bool.eq_iff_iff]; simp [rng, mosts, rmo, h1, h2] <;> omega)) HV.out.symm), drewN_below (by go_grown) _⟩
    · have hA : (decide (0 ≤ a) && decide (a ≤ 48)) = false := by simp; omega
      have hB : rng a 5 true = false := by simp [rng, mosts]; omega
      go_enter Tryd.func51, Tryd.ntmps51
      go_wp2_with (first | (go_at_call 22; refine (rOperands_16 _).mono ?_; rintro e ws ⟨rfl, rfl⟩) | (go_at_call 64; refine (rin_any _ _ _ _).mono ?_; rintro e ws ⟨rfl, rfl⟩))
      go_quiet ((first | (go_at_call 64; with_reducible exact Calls.quiet_of_same ((rin_b a 0 48 false hA _).mono (fun _ _ h => ⟨h.1, h.2.symm⟩)))))
      go_wp2_with fail
      go_ret
      exact ⟨ret_b (Eq.trans (by first | (simp [rng, mosts, rmo, hB]; done) | (simp [rng, mosts, rmo, hB]; omega) | (rw [Bool.eq_iff_iff]; simp [rng, mosts, rmo, hB] <;> omega)) HV.out.symm), drewN_below (by go_grown) _⟩
set_option maxHeartbeats 4000000 in
theorem rValid_12 (a b : Int) (p : Bool) (w : World) :
    Calls Tryd.prog 51 #[.agg #[.int .i64 12, .int .i64 a, .int .i64 b], .bool p] w fun e w' => e = .returned (.bool (vld 12 a b p)) ∧ Below w.heap.size w w' := by
  have HV := hide (vld_nat 12 (by omega) a b p)
  have s1 : (sp 12).a = 3 := rfl
  have s2 : (sp 12).b = 4 := rfl
  rw [s1, s2] at HV
  clear s1 s2
  by_cases ha3 : a = 3
  · subst ha3
    cases p
    all_goals
      go_enter Tryd.func51, Tryd.ntmps51
      go_wp2_with (first | (go_at_call 22; refine (rOperands_12 _).mono ?_; rintro e ws ⟨rfl, rfl⟩) | (go_at_call 64; refine (rin_any _ _ _ _).mono ?_; rintro e ws ⟨rfl, rfl⟩))
      go_ret
      exact ⟨ret_b (Eq.trans (by first | (simp [rng, mosts, rmo]; done) | (simp [rng, mosts, rmo]; omega) | (rw [Bool.eq_iff_iff]; simp [rng, mosts, rmo] <;> omega)) HV.out.symm), by go_grown⟩
  · have ha4 : (a == 3) = false := by simpa using ha3
    cases p
    case false =>
      by_cases ha : 2 ≤ a ∧ a ≤ 4
      · obtain ⟨h1, h2⟩ := ha
        have hA : (decide (2 ≤ a) && decide (a ≤ 4)) = true := by simp [h1, h2]
        go_enter Tryd.func51, Tryd.ntmps51
        go_wp2_with (first | (go_at_call 22; refine (rOperands_12 _).mono ?_; rintro e ws ⟨rfl, rfl⟩) | (go_at_call 64; refine (rin_any _ _ _ _).mono ?_; rintro e ws ⟨rfl, rfl⟩))
        go_quiet ((first | (go_at_call 64; with_reducible exact Calls.quiet_of_same ((rin_b a 2 4 true hA _).mono (fun _ _ h => ⟨h.1, h.2.symm⟩))) | (go_at_call 65; with_reducible exact Calls.quiet_of_same ((rmost_10 false _).mono (fun _ _ h => ⟨h.1, h.2.symm⟩))) | (go_at_call 64; with_reducible exact Calls.quiet_of_same ((rin_any b 0 (rmo 10 false) _).mono (fun _ _ h => ⟨h.1, h.2.symm⟩)))))
        go_wp2_with fail
        go_ret
        exact ⟨ret_b (Eq.trans (by first | (simp [rng, mosts, rmo, h1, h2, ha3, ha4]; done) | (simp [rng, mosts, rmo, h1, h2, ha3, ha4]; omega) | (rw [Bool.eq_iff_iff]; simp [rng, mosts, rmo, h1, h2, ha3, ha4] <;> omega)) HV.out.symm), drewN_below (by go_grown) _⟩
      · have hA : (decide (2 ≤ a) && decide (a ≤ 4)) = false := by simp; omega
        have hB : rng a 3 false = false := by simp [rng, mosts]; omega
        go_enter Tryd.func51, Tryd.ntmps51
        go_wp2_with (first | (go_at_call 22; refine (rOperands_12 _).mono ?_; rintro e ws ⟨rfl, rfl⟩) | (go_at_call 64; refine (rin_any _ _ _ _).mono ?_; rintro e ws ⟨rfl, rfl⟩))
        go_quiet ((first | (go_at_call 64; with_reducible exact Calls.quiet_of_same ((rin_b a 2 4 false hA _).mono (fun _ _ h => ⟨h.1, h.2.symm⟩)))))
        go_wp2_with fail
        go_ret
        exact ⟨ret_b (Eq.trans (by first | (simp [rng, mosts, rmo, hB]; done) | (simp [rng, mosts, rmo, hB]; omega) | (rw [Bool.eq_iff_iff]; simp [rng, mosts, rmo, hB] <;> omega)) HV.out.symm), drewN_below (by go_grown) _⟩
    case true =>
      by_cases ha : 2 ≤ a ∧ a ≤ 4
      · obtain ⟨h1, h2⟩ := ha
        have hA : (decide (2 ≤ a) && decide (a ≤ 4)) = true := by simp [h1, h2]
        go_enter Tryd.func51, Tryd.ntmps51
        go_wp2_with (first | (go_at_call 22; refine (rOperands_12 _).mono ?_; rintro e ws ⟨rfl, rfl⟩) | (go_at_call 64; refine (rin_any _ _ _ _).mono ?_; rintro e ws ⟨rfl, rfl⟩))
        go_quiet ((first | (go_at_call 64; with_reducible exact Calls.quiet_of_same ((rin_b a 2 4 true hA _).mono (fun _ _ h => ⟨h.1, h.2.symm⟩))) | (go_at_call 65; with_reducible exact Calls.quiet_of_same ((rmost_10 true _).mono (fun _ _ h => ⟨h.1, h.2.symm⟩))) | (go_at_call 64; with_reducible exact Calls.quiet_of_same ((rin_any b 0 (rmo 10 true) _).mono (fun _ _ h => ⟨h.1, h.2.symm⟩)))))
        go_wp2_with fail
        go_ret
        exact ⟨ret_b (Eq.trans (by first | (simp [rng, mosts, rmo, h1, h2, ha3, ha4]; done) | (simp [rng, mosts, rmo, h1, h2, ha3, ha4]; omega) | (rw [Bool.eq_iff_iff]; simp [rng, mosts, rmo, h1, h2, ha3, ha4] <;> omega)) HV.out.symm), drewN_below (by go_grown) _⟩
      · have hA : (decide (2 ≤ a) && decide (a ≤ 4)) = false := by simp; omega
        have hB : rng a 3 true = false := by simp [rng, mosts]; omega
        go_enter Tryd.func51, Tryd.ntmps51
        go_wp2_with (first | (go_at_call 22; refine (rOperands_12 _).mono ?_; rintro e ws ⟨rfl, rfl⟩) | (go_at_call 64; refine (rin_any _ _ _ _).mono ?_; rintro e ws ⟨rfl, rfl⟩))
        go_quiet ((first | (go_at_call 64; with_reducible exact Calls.quiet_of_same ((rin_b a 2 4 false hA _).mono (fun _ _ h => ⟨h.1, h.2.symm⟩)))))
        go_wp2_with fail
        go_ret
        exact ⟨ret_b (Eq.trans (by first | (simp [rng, mosts, rmo, hB]; done) | (simp [rng, mosts, rmo, hB]; omega) | (rw [Bool.eq_iff_iff]; simp [rng, mosts, rmo, hB] <;> omega)) HV.out.symm), drewN_below (by go_grown) _⟩
end Ec
end Go.Proofs.YteeljnlepbnhkaaDoor
