/- The reference: Valid, of the operations with one operand or none. -/
import Derived.Test.YteeljnlepbnhkaaDoorED
set_option linter.unusedVariables false
set_option linter.unusedSimpArgs false
namespace Go.Proofs.YteeljnlepbnhkaaDoor
open Go.RowKit Go.Sort
namespace Ec

set_option maxHeartbeats 4000000 in
theorem rValid_0 (a b : Int) (p : Bool) (w : World) :
    Calls Tryd.prog 51 #[.agg #[.int .i64 0, .int .i64 a, .int .i64 b], .bool p] w fun e w' => e = .returned (.bool (vld 0 a b p)) ∧ Below w.heap.size w w' := by
  have HV := hide (vld_nat 0 (by omega) a b p)
  have s1 : (sp 0).a = 0 := rfl
  have s2 : (sp 0).b = 0 := rfl
  rw [s1, s2] at HV
  clear s1 s2
  by_cases hb : b = 0
  · subst hb
    by_cases ha : a = 0
    · subst ha
      go_enter Tryd.func51, Tryd.ntmps51
      go_wp2_with (first | (go_at_call 22; refine (rOperands_0 _).mono ?_; rintro e ws ⟨rfl, rfl⟩) | (go_at_call 64; refine (rin_any _ _ _ _).mono ?_; rintro e ws ⟨rfl, rfl⟩) | (go_at_call 65; refine (rmost_10 _ _).mono ?_; rintro e ws ⟨rfl, rfl⟩) | (go_at_call 65; refine (rmost_7 _ _).mono ?_; rintro e ws ⟨rfl, rfl⟩) | (go_at_call 65; refine (rmost_16 _ _).mono ?_; rintro e ws ⟨rfl, rfl⟩))
      go_ret
      exact ⟨ret_b (Eq.trans (by first | (simp [rng, mosts, rmo]; done) | (simp [rng, mosts, rmo]; omega) | (rw [Bool.eq_iff_iff]; simp [rng, mosts, rmo] <;> omega)) HV.out.symm), by go_grown⟩
    · have ha2 : (a == 0) = false := by simpa using ha
      have ha3 : (a != 0) = true := by simpa using ha
      go_enter Tryd.func51, Tryd.ntmps51
      go_wp2_with (first | (go_at_call 22; refine (rOperands_0 _).mono ?_; rintro e ws ⟨rfl, rfl⟩) | (go_at_call 64; refine (rin_any _ _ _ _).mono ?_; rintro e ws ⟨rfl, rfl⟩) | (go_at_call 65; refine (rmost_10 _ _).mono ?_; rintro e ws ⟨rfl, rfl⟩) | (go_at_call 65; refine (rmost_7 _ _).mono ?_; rintro e ws ⟨rfl, rfl⟩) | (go_at_call 65; refine (rmost_16 _ _).mono ?_; rintro e ws ⟨rfl, rfl⟩))
      go_ret
      exact ⟨ret_b (Eq.trans (by first | (simp [rng, mosts, rmo, ha]; done) | (simp [rng, mosts, rmo, ha]; omega) | (rw [Bool.eq_iff_iff]; simp [rng, mosts, rmo, ha] <;> omega)) HV.out.symm), by go_grown⟩
  · have hb2 : (b == 0) = false := by simpa using hb
    have hb3 : (b != 0) = true := by simpa using hb
    go_enter Tryd.func51, Tryd.ntmps51
    go_wp2_with (first | (go_at_call 22; refine (rOperands_0 _).mono ?_; rintro e ws ⟨rfl, rfl⟩) | (go_at_call 64; refine (rin_any _ _ _ _).mono ?_; rintro e ws ⟨rfl, rfl⟩) | (go_at_call 65; refine (rmost_10 _ _).mono ?_; rintro e ws ⟨rfl, rfl⟩) | (go_at_call 65; refine (rmost_7 _ _).mono ?_; rintro e ws ⟨rfl, rfl⟩) | (go_at_call 65; refine (rmost_16 _ _).mono ?_; rintro e ws ⟨rfl, rfl⟩))
    go_ret
    exact ⟨ret_b (Eq.trans (by first | (simp [rng, mosts, rmo, hb]; done) | (simp [rng, mosts, rmo, hb]; omega) | (rw [Bool.eq_iff_iff]; simp [rng, mosts, rmo, hb] <;> omega)) HV.out.symm), by go_grown⟩
set_option maxHeartbeats 4000000 in
theorem rValid_1 (a b : Int) (p : Bool) (w : World) :
    Calls Tryd.prog 51 #[.agg #[.int .i64 1, .int .i64 a, .int .i64 b], .bool p] w fun e w' => e = .returned (.bool (vld 1 a b p)) ∧ Below w.heap.size w w' := by
  have HV := hide (vld_nat 1 (by omega) a b p)
  have s1 : (sp 1).a = 1 := rfl
  have s2 : (sp 1).b = 0 := rfl
  rw [s1, s2] at HV
  clear s1 s2
  by_cases hb : b = 0
  · subst hb
    go_enter Tryd.func51, Tryd.ntmps51
    go_wp2_with (first | (go_at_call 22; refine (rOperands_1 _).mono ?_; rintro e ws ⟨rfl, rfl⟩) | (go_at_call 64; refine (rin_any _ _ _ _).mono ?_; rintro e ws ⟨rfl, rfl⟩) | (go_at_call 65; refine (rmost_10 _ _).mono ?_; rintro e ws ⟨rfl, rfl⟩) | (go_at_call 65; refine (rmost_7 _ _).mono ?_; rintro e ws ⟨rfl, rfl⟩) | (go_at_call 65; refine (rmost_16 _ _).mono ?_; rintro e ws ⟨rfl, rfl⟩))
    go_ret
    exact ⟨ret_b (Eq.trans (by first | (simp [rng, mosts, rmo]; done) | (simp [rng, mosts, rmo]; omega) | (rw [Bool.eq_iff_iff]; simp [rng, mosts, rmo] <;> omega)) HV.out.symm), by go_grown⟩
  · have hb2 : (b == 0) = false := by simpa using hb
    have hb3 : (b != 0) = true := by simpa using hb
    go_enter Tryd.func51, Tryd.ntmps51
    go_wp2_with (first | (go_at_call 22; refine (rOperands_1 _).mono ?_; rintro e ws ⟨rfl, rfl⟩) | (go_at_call 64; refine (rin_any _ _ _ _).mono ?_; rintro e ws ⟨rfl, rfl⟩) | (go_at_call 65; refine (rmost_10 _ _).mono ?_; rintro e ws ⟨rfl, rfl⟩) | (go_at_call 65; refine (rmost_7 _ _).mono ?_; rintro e ws ⟨rfl, rfl⟩) | (go_at_call 65; refine (rmost_16 _ _).mono ?_; rintro e ws ⟨rfl, rfl⟩))
    go_ret
    exact ⟨ret_b (Eq.trans (by first | (simp [rng, mosts, rmo, hb]; done) | (simp [rng, mosts, rmo, hb]; omega) | (rw [Bool.eq_iff_iff]; simp [rng, mosts, rmo, hb] <;> omega)) HV.out.symm), by go_grown⟩
set_option maxHeartbeats 4000000 in
theorem rValid_2 (a b : Int) (p : Bool) (w : World) :
    Calls Tryd.prog 51 #[.agg #[.int .i64 2, .int .i64 a, .int .i64 b], .bool p] w fun e w' => e = .returned (.bool (vld 2 a b p)) ∧ Below w.heap.size w w' := by
  have HV := hide (vld_nat 2 (by omega) a b p)
  have s1 : (sp 2).a = 2 := rfl
  have s2 : (sp 2).b = 0 := rfl
  rw [s1, s2] at HV
  clear s1 s2
  by_cases hb : b = 0
  · subst hb
    go_enter Tryd.func51, Tryd.ntmps51
    go_wp2_with (first | (go_at_call 22; refine (rOperands_2 _).mono ?_; rintro e ws ⟨rfl, rfl⟩) | (go_at_call 64; refine (rin_any _ _ _ _).mono ?_; rintro e ws ⟨rfl, rfl⟩) | (go_at_call 65; refine (rmost_10 _ _).mono ?_; rintro e ws ⟨rfl, rfl⟩) | (go_at_call 65; refine (rmost_7 _ _).mono ?_; rintro e ws ⟨rfl, rfl⟩) | (go_at_call 65; refine (rmost_16 _ _).mono ?_; rintro e ws ⟨rfl, rfl⟩))
    go_ret
    exact ⟨ret_b (Eq.trans (by first | (simp [rng, mosts, rmo]; done) | (simp [rng, mosts, rmo]; omega) | (rw [Bool.eq_iff_iff]; simp [rng, mosts, rmo] <;> omega)) HV.out.symm), by go_grown⟩
  · have hb2 : (b == 0) = false := by simpa using hb
    have hb3 : (b != 0) = true := by simpa using hb
    go_enter Tryd.func51, Tryd.ntmps51
    go_wp2_with (first | (go_at_call 22; refine (rOperands_2 _).mono ?_; rintro e ws ⟨rfl, rfl⟩) | (go_at_call 64; refine (rin_any _ _ _ _).mono ?_; rintro e ws ⟨rfl, rfl⟩) | (go_at_call 65; refine (rmost_10 _ _).mono ?_; rintro e ws ⟨rfl, rfl⟩) | (go_at_call 65; refine (rmost_7 _ _).mono ?_; rintro e ws ⟨rfl, rfl⟩) | (go_at_call 65; refine (rmost_16 _ _).mono ?_; rintro e ws ⟨rfl, rfl⟩))
    go_ret
    exact ⟨ret_b (Eq.trans (by first | (simp [rng, mosts, rmo, hb]; done) | (simp [rng, mosts, rmo, hb]; omega) | (rw [Bool.eq_iff_iff]; simp [rng, mosts, rmo, hb] <;> omega)) HV.out.symm), by go_grown⟩
set_option maxHeartbeats 4000000 in
theorem rValid_3 (a b : Int) (p : Bool) (w : World) :
    Calls Tryd.prog 51 #[.agg #[.int .i64 3, .int .i64 a, .int .i64 b], .bool p] w fun e w' => e = .returned (.bool (vld 3 a b p)) ∧ Below w.heap.size w w' := by
  have HV := hide (vld_nat 3 (by omega) a b p)
  have s1 : (sp 3).a = 2 := rfl
  have s2 : (sp 3).b = 0 := rfl
  rw [s1, s2] at HV
  clear s1 s2
  by_cases hb : b = 0
  · subst hb
    go_enter Tryd.func51, Tryd.ntmps51
    go_wp2_with (first | (go_at_call 22; refine (rOperands_3 _).mono ?_; rintro e ws ⟨rfl, rfl⟩) | (go_at_call 64; refine (rin_any _ _ _ _).mono ?_; rintro e ws ⟨rfl, rfl⟩) | (go_at_call 65; refine (rmost_10 _ _).mono ?_; rintro e ws ⟨rfl, rfl⟩) | (go_at_call 65; refine (rmost_7 _ _).mono ?_; rintro e ws ⟨rfl, rfl⟩) | (go_at_call 65; refine (rmost_16 _ _).mono ?_; rintro e ws ⟨rfl, rfl⟩))
    go_ret
    exact ⟨ret_b (Eq.trans (by first | (simp [rng, mosts, rmo]; done) | (simp [rng, mosts, rmo]; omega) | (rw [Bool.eq_iff_iff]; simp [rng, mosts, rmo] <;> omega)) HV.out.symm), by go_grown⟩
  · have hb2 : (b == 0) = false := by simpa using hb
    have hb3 : (b != 0) = true := by simpa using hb
    go_enter Tryd.func51, Tryd.ntmps51
    go_wp2_with (first | (go_at_call 22; refine (rOperands_3 _).mono ?_; rintro e ws ⟨rfl, rfl⟩) | (go_at_call 64; refine (rin_any _ _ _ _).mono ?_; rintro e ws ⟨rfl, rfl⟩) | (go_at_call 65; refine (rmost_10 _ _).mono ?_; rintro e ws ⟨rfl, rfl⟩) | (go_at_call 65; refine (rmost_7 _ _).mono ?_; rintro e ws ⟨rfl, rfl⟩) | (go_at_call 65; refine (rmost_16 _ _).mono ?_; rintro e ws ⟨rfl, rfl⟩))
    go_ret
    exact ⟨ret_b (Eq.trans (by first | (simp [rng, mosts, rmo, hb]; done) | (simp [rng, mosts, rmo, hb]; omega) | (rw [Bool.eq_iff_iff]; simp [rng, mosts, rmo, hb] <;> omega)) HV.out.symm), by go_grown⟩
set_option maxHeartbeats 4000000 in
theorem rValid_4 (a b : Int) (p : Bool) (w : World) :
    Calls Tryd.prog 51 #[.agg #[.int .i64 4, .int .i64 a, .int .i64 b], .bool p] w fun e w' => e = .returned (.bool (vld 4 a b p)) ∧ Below w.heap.size w w' := by
  have HV := hide (vld_nat 4 (by omega) a b p)
  have s1 : (sp 4).a = 0 := rfl
  have s2 : (sp 4).b = 0 := rfl
  rw [s1, s2] at HV
  clear s1 s2
  by_cases hb : b = 0
  · subst hb
    by_cases ha : a = 0
    · subst ha
      go_enter Tryd.func51, Tryd.ntmps51
      go_wp2_with (first | (go_at_call 22; refine (rOperands_4 _).mono ?_; rintro e ws ⟨rfl, rfl⟩) | (go_at_call 64; refine (rin_any _ _ _ _).mono ?_; rintro e ws ⟨rfl, rfl⟩) | (go_at_call 65; refine (rmost_10 _ _).mono ?_; rintro e ws ⟨rfl, rfl⟩) | (go_at_call 65; refine (rmost_7 _ _).mono ?_; rintro e ws ⟨rfl, rfl⟩) | (go_at_call 65; refine (rmost_16 _ _).mono ?_; rintro e ws ⟨rfl, rfl⟩))
      go_ret
      exact ⟨ret_b (Eq.trans (by first | (simp [rng, mosts, rmo]; done) | (simp [rng, mosts, rmo]; omega) | (rw [Bool.eq_iff_iff]; simp [rng, mosts, rmo] <;> omega)) HV.out.symm), by go_grown⟩
    · have ha2 : (a == 0) = false := by simpa using ha
      have ha3 : (a != 0) = true := by simpa using ha
      go_enter Tryd.func51, Tryd.ntmps51
      go_wp2_with (first | (go_at_call 22; refine (rOperands_4 _).mono ?_; rintro e ws ⟨rfl, rfl⟩) | (go_at_call 64; refine (rin_any _ _ _ _).mono ?_; rintro e ws ⟨rfl, rfl⟩) | (go_at_call 65; refine (rmost_10 _ _).mono ?_; rintro e ws ⟨rfl, rfl⟩) | (go_at_call 65; refine (rmost_7 _ _).mono ?_; rintro e ws ⟨rfl, rfl⟩) | (go_at_call 65; refine (rmost_16 _ _).mono ?_; rintro e ws ⟨rfl, rfl⟩))
      go_ret
      exact ⟨ret_b (Eq.trans (by first | (simp [rng, mosts, rmo, ha]; done) | (simp [rng, mosts, rmo, ha]; omega) | (rw [Bool.eq_iff_iff]; simp [rng, mosts, rmo, ha] <;> omega)) HV.out.symm), by go_grown⟩
  · have hb2 : (b == 0) = false := by simpa using hb
    have hb3 : (b != 0) = true := by simpa using hb
    go_enter Tryd.func51, Tryd.ntmps51
    go_wp2_with (first | (go_at_call 22; refine (rOperands_4 _).mono ?_; rintro e ws ⟨rfl, rfl⟩) | (go_at_call 64; refine (rin_any _ _ _ _).mono ?_; rintro e ws ⟨rfl, rfl⟩) | (go_at_call 65; refine (rmost_10 _ _).mono ?_; rintro e ws ⟨rfl, rfl⟩) | (go_at_call 65; refine (rmost_7 _ _).mono ?_; rintro e ws ⟨rfl, rfl⟩) | (go_at_call 65; refine (rmost_16 _ _).mono ?_; rintro e ws ⟨rfl, rfl⟩))
    go_ret
    exact ⟨ret_b (Eq.trans (by first | (simp [rng, mosts, rmo, hb]; done) | (simp [rng, mosts, rmo, hb]; omega) | (rw [Bool.eq_iff_iff]; simp [rng, mosts, rmo, hb] <;> omega)) HV.out.symm), by go_grown⟩
set_option maxHeartbeats 4000000 in
theorem rValid_5 (a b : Int) (p : Bool) (w : World) :
    Calls Tryd.prog 51 #[.agg #[.int .i64 5, .int .i64 a, .int .i64 b], .bool p] w fun e w' => e = .returned (.bool (vld 5 a b p)) ∧ Below w.heap.size w w' := by
  have HV := hide (vld_nat 5 (by omega) a b p)
  have s1 : (sp 5).a = 0 := rfl
  have s2 : (sp 5).b = 0 := rfl
  rw [s1, s2] at HV
  clear s1 s2
  by_cases hb : b = 0
  · subst hb
    by_cases ha : a = 0
    · subst ha
      go_enter Tryd.func51, Tryd.ntmps51
      go_wp2_with (first | (go_at_call 22; refine (rOperands_5 _).mono ?_; rintro e ws ⟨rfl, rfl⟩) | (go_at_call 64; refine (rin_any _ _ _ _).mono ?_; rintro e ws ⟨rfl, rfl⟩) | (go_at_call 65; refine (rmost_10 _ _).mono ?_; rintro e ws ⟨rfl, rfl⟩) | (go_at_call 65; refine (rmost_7 _ _).mono ?_; rintro e ws ⟨rfl, rfl⟩) | (go_at_call 65; refine (rmost_16 _ _).mono ?_; rintro e ws ⟨rfl, rfl⟩))
      go_ret
      exact ⟨ret_b (Eq.trans (by first | (simp [rng, mosts, rmo]; done) | (simp [rng, mosts, rmo]; omega) | (rw [Bool.eq_iff_iff]; simp [rng, mosts, rmo] <;> omega)) HV.out.symm), by go_grown⟩
    · have ha2 : (a == 0) = false := by simpa using ha
      have ha3 : (a != 0) = true := by simpa using ha
      go_enter Tryd.func51, Tryd.ntmps51
      go_wp2_with (first | (go_at_call 22; refine (rOperands_5 _).mono ?_; rintro e ws ⟨rfl, rfl⟩) | (go_at_call 64; refine (rin_any _ _ _ _).mono ?_; rintro e ws ⟨rfl, rfl⟩) | (go_at_call 65; refine (rmost_10 _ _).mono ?_; rintro e ws ⟨rfl, rfl⟩) | (go_at_call 65; refine (rmost_7 _ _).mono ?_; rintro e ws ⟨rfl, rfl⟩) | (go_at_call 65; refine (rmost_16 _ _).mono ?_; rintro e ws ⟨rfl, rfl⟩))
      go_ret
      exact ⟨ret_b (Eq.trans (by first | (simp [rng, mosts, rmo, ha]; done) | (simp [rng, mosts, rmo, ha]; omega) | (rw [Bool.eq_iff_iff]; simp [rng, mosts, rmo, ha] <;> omega)) HV.out.symm), by go_grown⟩
  · have hb2 : (b == 0) = false := by simpa using hb
    have hb3 : (b != 0) = true := by simpa using hb
    go_enter Tryd.func51, Tryd.ntmps51
    go_wp2_with (first | (go_at_call 22; refine (rOperands_5 _).mono ?_; rintro e ws ⟨rfl, rfl⟩) | (go_at_call 64; refine (rin_any _ _ _ _).mono ?_; rintro e ws ⟨rfl, rfl⟩) | (go_at_call 65; refine (rmost_10 _ _).mono ?_; rintro e ws ⟨rfl, rfl⟩) | (go_at_call 65; refine (rmost_7 _ _).mono ?_; rintro e ws ⟨rfl, rfl⟩) | (go_at_call 65; refine (rmost_16 _ _).mono ?_; rintro e ws ⟨rfl, rfl⟩))
    go_ret
    exact ⟨ret_b (Eq.trans (by first | (simp [rng, mosts, rmo, hb]; done) | (simp [rng, mosts, rmo, hb]; omega) | (rw [Bool.eq_iff_iff]; simp [rng, mosts, rmo, hb] <;> omega)) HV.out.symm), by go_grown⟩
set_option maxHeartbeats 4000000 in
theorem rValid_6 (a b : Int) (p : Bool) (w : World) :
    Calls Tryd.prog 51 #[.agg #[.int .i64 6, .int .i64 a, .int .i64 b], .bool p] w fun e w' => e = .returned (.bool (vld 6 a b p)) ∧ Below w.heap.size w w' := by
  have HV := hide (vld_nat 6 (by omega) a b p)
  have s1 : (sp 6).a = 0 := rfl
  have s2 : (sp 6).b = 0 := rfl
  rw [s1, s2] at HV
  clear s1 s2
  by_cases hb : b = 0
  · subst hb
    by_cases ha : a = 0
    · subst ha
      go_enter Tryd.func51, Tryd.ntmps51
      go_wp2_with (first | (go_at_call 22; refine (rOperands_6 _).mono ?_; rintro e ws ⟨rfl, rfl⟩) | (go_at_call 64; refine (rin_any _ _ _ _).mono ?_; rintro e ws ⟨rfl, rfl⟩) | (go_at_call 65; refine (rmost_10 _ _).mono ?_; rintro e ws ⟨rfl, rfl⟩) | (go_at_call 65; refine (rmost_7 _ _).mono ?_; rintro e ws ⟨rfl, rfl⟩) | (go_at_call 65; refine (rmost_16 _ _).mono ?_; rintro e ws ⟨rfl, rfl⟩))
      go_ret
      exact ⟨ret_b (Eq.trans (by first | (simp [rng, mosts, rmo]; done) | (simp [rng, mosts, rmo]; omega) | (rw [Bool.eq_iff_iff]; simp [rng, mosts, rmo] <;> omega)) HV.out.symm), by go_grown⟩
    · have ha2 : (a == 0) = false := by simpa using ha
      have ha3 : (a != 0) = true := by simpa using ha
      go_enter Tryd.func51, Tryd.ntmps51
      go_wp2_with (first | (go_at_call 22; refine (rOperands_6 _).mono ?_; rintro e ws ⟨rfl, rfl⟩) | (go_at_call 64; refine (rin_any _ _ _ _).mono ?_; rintro e ws ⟨rfl, rfl⟩) | (go_at_call 65; refine (rmost_10 _ _).mono ?_; rintro e ws ⟨rfl, rfl⟩) | (go_at_call 65; refine (rmost_7 _ _).mono ?_; rintro e ws ⟨rfl, rfl⟩) | (go_at_call 65; refine (rmost_16 _ _).mono ?_; rintro e ws ⟨rfl, rfl⟩))
      go_ret
      exact ⟨ret_b (Eq.trans (by first | (simp [rng, mosts, rmo, ha]; done) | (simp [rng, mosts, rmo, ha]; omega) | (rw [Bool.eq_iff_iff]; simp [rng, mosts, rmo, ha] <;> omega)) HV.out.symm), by go_grown⟩
  · have hb2 : (b == 0) = false := by simpa using hb
    have hb3 : (b != 0) = true := by simpa using hb
    go_enter Tryd.func51, Tryd.ntmps51
    go_wp2_with (first | (go_at_call 22; refine (rOperands_6 _).mono ?_; rintro e ws ⟨rfl, rfl⟩) | (go_at_call 64; refine (rin_any _ _ _ _).mono ?_; rintro e ws ⟨rfl, rfl⟩) | (go_at_call 65; refine (rmost_10 _ _).mono ?_; rintro e ws ⟨rfl, rfl⟩) | (go_at_call 65; refine (rmost_7 _ _).mono ?_; rintro e ws ⟨rfl, rfl⟩) | (go_at_call 65; refine (rmost_16 _ _).mono ?_; rintro e ws ⟨rfl, rfl⟩))
    go_ret
    exact ⟨ret_b (Eq.trans (by first | (simp [rng, mosts, rmo, hb]; done) | (simp [rng, mosts, rmo, hb]; omega) | (rw [Bool.eq_iff_iff]; simp [rng, mosts, rmo, hb] <;> omega)) HV.out.symm), by go_grown⟩
set_option maxHeartbeats 4000000 in
theorem rValid_7 (a b : Int) (p : Bool) (w : World) :
    Calls Tryd.prog 51 #[.agg #[.int .i64 7, .int .i64 a, .int .i64 b], .bool p] w fun e w' => e = .returned (.bool (vld 7 a b p)) ∧ Below w.heap.size w w' := by
  have HV := hide (vld_nat 7 (by omega) a b p)
  have s1 : (sp 7).a = 0 := rfl
  have s2 : (sp 7).b = 0 := rfl
  rw [s1, s2] at HV
  clear s1 s2
  by_cases hb : b = 0
  · subst hb
    by_cases ha : a = 0
    · subst ha
      go_enter Tryd.func51, Tryd.ntmps51
      go_wp2_with (first | (go_at_call 22; refine (rOperands_7 _).mono ?_; rintro e ws ⟨rfl, rfl⟩) | (go_at_call 64; refine (rin_any _ _ _ _).mono ?_; rintro e ws ⟨rfl, rfl⟩) | (go_at_call 65; refine (rmost_10 _ _).mono ?_; rintro e ws ⟨rfl, rfl⟩) | (go_at_call 65; refine (rmost_7 _ _).mono ?_; rintro e ws ⟨rfl, rfl⟩) | (go_at_call 65; refine (rmost_16 _ _).mono ?_; rintro e ws ⟨rfl, rfl⟩))
      go_ret
      exact ⟨ret_b (Eq.trans (by first | (simp [rng, mosts, rmo]; done) | (simp [rng, mosts, rmo]; omega) | (rw [Bool.eq_iff_iff]; simp [rng, mosts, rmo] <;> omega)) HV.out.symm), by go_grown⟩
    · have ha2 : (a == 0) = false := by simpa using ha
      have ha3 : (a != 0) = true := by simpa using ha
      go_enter Tryd.func51, Tryd.ntmps51
      go_wp2_with (first | (go_at_call 22; refine (rOperands_7 _).mono ?_; rintro e ws ⟨rfl, rfl⟩) | (go_at_call 64; refine (rin_any _ _ _ _).mono ?_; rintro e ws ⟨rfl, rfl⟩) | (go_at_call 65; refine (rmost_10 _ _).mono ?_; rintro e ws ⟨rfl, rfl⟩) | (go_at_call 65; refine (rmost_7 _ _).mono ?_; rintro e ws ⟨rfl, rfl⟩) | (go_at_call 65; refine (rmost_16 _ _).mono ?_; rintro e ws ⟨rfl, rfl⟩))
      go_ret
      exact ⟨ret_b (Eq.trans (by first | (simp [rng, mosts, rmo, ha]; done) | (simp [rng, mosts, rmo, ha]; omega) | (rw [Bool.eq_iff_iff]; simp [rng, mosts, rmo, ha] <;> omega)) HV.out.symm), by go_grown⟩
  · have hb2 : (b == 0) = false := by simpa using hb
    have hb3 : (b != 0) = true := by simpa using hb
    go_enter Tryd.func51, Tryd.ntmps51
    go_wp2_with (first | (go_at_call 22; refine (rOperands_7 _).mono ?_; rintro e ws ⟨rfl, rfl⟩) | (go_at_call 64; refine (rin_any _ _ _ _).mono ?_; rintro e ws ⟨rfl, rfl⟩) | (go_at_call 65; refine (rmost_10 _ _).mono ?_; rintro e ws ⟨rfl, rfl⟩) | (go_at_call 65; refine (rmost_7 _ _).mono ?_; rintro e ws ⟨rfl, rfl⟩) | (go_at_call 65; refine (rmost_16 _ _).mono ?_; rintro e ws ⟨rfl, rfl⟩))
    go_ret
    exact ⟨ret_b (Eq.trans (by first | (simp [rng, mosts, rmo, hb]; done) | (simp [rng, mosts, rmo, hb]; omega) | (rw [Bool.eq_iff_iff]; simp [rng, mosts, rmo, hb] <;> omega)) HV.out.symm), by go_grown⟩
set_option maxHeartbeats 4000000 in
theorem rValid_8 (a b : Int) (p : Bool) (w : World) :
    Calls Tryd.prog 51 #[.agg #[.int .i64 8, .int .i64 a, .int .i64 b], .bool p] w fun e w' => e = .returned (.bool (vld 8 a b p)) ∧ Below w.heap.size w w' := by
  have HV := hide (vld_nat 8 (by omega) a b p)
  have s1 : (sp 8).a = 0 := rfl
  have s2 : (sp 8).b = 0 := rfl
  rw [s1, s2] at HV
  clear s1 s2
  by_cases hb : b = 0
  · subst hb
    by_cases ha : a = 0
    · subst ha
      go_enter Tryd.func51, Tryd.ntmps51
      go_wp2_with (first | (go_at_call 22; refine (rOperands_8 _).mono ?_; rintro e ws ⟨rfl, rfl⟩) | (go_at_call 64; refine (rin_any _ _ _ _).mono ?_; rintro e ws ⟨rfl, rfl⟩) | (go_at_call 65; refine (rmost_10 _ _).mono ?_; rintro e ws ⟨rfl, rfl⟩) | (go_at_call 65; refine (rmost_7 _ _).mono ?_; rintro e ws ⟨rfl, rfl⟩) | (go_at_call 65; refine (rmost_16 _ _).mono ?_; rintro e ws ⟨rfl, rfl⟩))
      go_ret
      exact ⟨ret_b (Eq.trans (by first | (simp [rng, mosts, rmo]; done) | (simp [rng, mosts, rmo]; omega) | (rw [Bool.eq_iff_iff]; simp [rng, mosts, rmo] <;> omega)) HV.out.symm), by go_grown⟩
    · have ha2 : (a == 0) = false := by simpa using ha
      have ha3 : (a != 0) = true := by simpa using ha
      go_enter Tryd.func51, Tryd.ntmps51
      go_wp2_with (first | (go_at_call 22; refine (rOperands_8 _).mono ?_; rintro e ws ⟨rfl, rfl⟩) | (go_at_call 64; refine (rin_any _ _ _ _).mono ?_; rintro e ws ⟨rfl, rfl⟩) | (go_at_call 65; refine (rmost_10 _ _).mono ?_; rintro e ws ⟨rfl, rfl⟩) | (go_at_call 65; refine (rmost_7 _ _).mono ?_; rintro e ws ⟨rfl, rfl⟩) | (go_at_call 65; refine (rmost_16 _ _).mono ?_; rintro e ws ⟨rfl, rfl⟩))
      go_ret
      exact ⟨ret_b (Eq.trans (by first | (simp [rng, mosts, rmo, ha]; done) | (simp [rng, mosts, rmo, ha]; omega) | (rw [Bool.eq_iff_iff]; simp [rng, mosts, rmo, ha] <;> omega)) HV.out.symm), by go_grown⟩
  · have hb2 : (b == 0) = false := by simpa using hb
    have hb3 : (b != 0) = true := by simpa using hb
    go_enter Tryd.func51, Tryd.ntmps51
    go_wp2_with (first | (go_at_call 22; refine (rOperands_8 _).mono ?_; rintro e ws ⟨rfl, rfl⟩) | (go_at_call 64; refine (rin_any _ _ _ _).mono ?_; rintro e ws ⟨rfl, rfl⟩) | (go_at_call 65; refine (rmost_10 _ _).mono ?_; rintro e ws ⟨rfl, rfl⟩) | (go_at_call 65; refine (rmost_7 _ _).mono ?_; rintro e ws ⟨rfl, rfl⟩) | (go_at_call 65; refine (rmost_16 _ _).mono ?_; rintro e ws ⟨rfl, rfl⟩))
    go_ret
    exact ⟨ret_b (Eq.trans (by first | (simp [rng, mosts, rmo, hb]; done) | (simp [rng, mosts, rmo, hb]; omega) | (rw [Bool.eq_iff_iff]; simp [rng, mosts, rmo, hb] <;> omega)) HV.out.symm), by go_grown⟩
set_option maxHeartbeats 4000000 in
theorem rValid_9 (a b : Int) (p : Bool) (w : World) :
    Calls Tryd.prog 51 #[.agg #[.int .i64 9, .int .i64 a, .int .i64 b], .bool p] w fun e w' => e = .returned (.bool (vld 9 a b p)) ∧ Below w.heap.size w w' := by
  have HV := hide (vld_nat 9 (by omega) a b p)
  have s1 : (sp 9).a = 0 := rfl
  have s2 : (sp 9).b = 0 := rfl
  rw [s1, s2] at HV
  clear s1 s2
  by_cases hb : b = 0
  · subst hb
    by_cases ha : a = 0
    · subst ha
      go_enter Tryd.func51, Tryd.ntmps51
      go_wp2_with (first | (go_at_call 22; refine (rOperands_9 _).mono ?_; rintro e ws ⟨rfl, rfl⟩) | (go_at_call 64; refine (rin_any _ _ _ _).mono ?_; rintro e ws ⟨rfl, rfl⟩) | (go_at_call 65; refine (rmost_10 _ _).mono ?_; rintro e ws ⟨rfl, rfl⟩) | (go_at_call 65; refine (rmost_7 _ _).mono ?_; rintro e ws ⟨rfl, rfl⟩) | (go_at_call 65; refine (rmost_16 _ _).mono ?_; rintro e ws ⟨rfl, rfl⟩))
      go_ret
      exact ⟨ret_b (Eq.trans (by first | (simp [rng, mosts, rmo]; done) | (simp [rng, mosts, rmo]; omega) | (rw [Bool.eq_iff_iff]; simp [rng, mosts, rmo] <;> omega)) HV.out.symm), by go_grown⟩
    · have ha2 : (a == 0) = false := by simpa using ha
      have ha3 : (a != 0) = true := by simpa using ha
      go_enter Tryd.func51, Tryd.ntmps51
      go_wp2_with (first | (go_at_call 22; refine (rOperands_9 _).mono ?_; rintro e ws ⟨rfl, rfl⟩) | (go_at_call 64; refine (rin_any _ _ _ _).mono ?_; rintro e ws ⟨rfl, rfl⟩) | (go_at_call 65; refine (rmost_10 _ _).mono ?_; rintro e ws ⟨rfl, rfl⟩) | (go_at_call 65; refine (rmost_7 _ _).mono ?_; rintro e ws ⟨rfl, rfl⟩) | (go_at_call 65; refine (rmost_16 _ _).mono ?_; rintro e ws ⟨rfl, rfl⟩))
      go_ret
      exact ⟨ret_b (Eq.trans (by first | (simp [rng, mosts, rmo, ha]; done) | (simp [rng, mosts, rmo, ha]; omega) | (rw [Bool.eq_iff_iff]; simp [rng, mosts, rmo, ha] <;> omega)) HV.out.symm), by go_grown⟩
  · have hb2 : (b == 0) = false := by simpa using hb
    have hb3 : (b != 0) = true := by simpa using hb
    go_enter Tryd.func51, Tryd.ntmps51
    go_wp2_with (first | (go_at_call 22; refine (rOperands_9 _).mono ?_; rintro e ws ⟨rfl, rfl⟩) | (go_at_call 64; refine (rin_any _ _ _ _).mono ?_; rintro e ws ⟨rfl, rfl⟩) | (go_at_call 65; refine (rmost_10 _ _).mono ?_; rintro e ws ⟨rfl, rfl⟩) | (go_at_call 65; refine (rmost_7 _ _).mono ?_; rintro e ws ⟨rfl, rfl⟩) | (go_at_call 65; refine (rmost_16 _ _).mono ?_; rintro e ws ⟨rfl, rfl⟩))
    go_ret
    exact ⟨ret_b (Eq.trans (by first | (simp [rng, mosts, rmo, hb]; done) | (simp [rng, mosts, rmo, hb]; omega) | (rw [Bool.eq_iff_iff]; simp [rng, mosts, rmo, hb] <;> omega)) HV.out.symm), by go_grown⟩
set_option maxHeartbeats 4000000 in
theorem rValid_10 (a b : Int) (p : Bool) (w : World) :
    Calls Tryd.prog 51 #[.agg #[.int .i64 10, .int .i64 a, .int .i64 b], .bool p] w fun e w' => e = .returned (.bool (vld 10 a b p)) ∧ Below w.heap.size w w' := by
  have HV := hide (vld_nat 10 (by omega) a b p)
  have s1 : (sp 10).a = 0 := rfl
  have s2 : (sp 10).b = 0 := rfl
  rw [s1, s2] at HV
  clear s1 s2
  by_cases hb : b = 0
  · subst hb
    by_cases ha : a = 0
    · subst ha
      go_enter Tryd.func51, Tryd.ntmps51
      go_wp2_with (first | (go_at_call 22; refine (rOperands_10 _).mono ?_; rintro e ws ⟨rfl, rfl⟩) | (go_at_call 64; refine (rin_any _ _ _ _).mono ?_; rintro e ws ⟨rfl, rfl⟩) | (go_at_call 65; refine (rmost_10 _ _).mono ?_; rintro e ws ⟨rfl, rfl⟩) | (go_at_call 65; refine (rmost_7 _ _).mono ?_; rintro e ws ⟨rfl, rfl⟩) | (go_at_call 65; refine (rmost_16 _ _).mono ?_; rintro e ws ⟨rfl, rfl⟩))
      go_ret
      exact ⟨ret_b (Eq.trans (by first | (simp [rng, mosts, rmo]; done) | (simp [rng, mosts, rmo]; omega) | (rw [Bool.eq_iff_iff]; simp [rng, mosts, rmo] <;> omega)) HV.out.symm), by go_grown⟩
    · have ha2 : (a == 0) = false := by simpa using ha
      have ha3 : (a != 0) = true := by simpa using ha
      go_enter Tryd.func51, Tryd.ntmps51
      go_wp2_with (first | (go_at_call 22; refine (rOperands_10 _).mono ?_; rintro e ws ⟨rfl, rfl⟩) | (go_at_call 64; refine (rin_any _ _ _ _).mono ?_; rintro e ws ⟨rfl, rfl⟩) | (go_at_call 65; refine (rmost_10 _ _).mono ?_; rintro e ws ⟨rfl, rfl⟩) | (go_at_call 65; refine (rmost_7 _ _).mono ?_; rintro e ws ⟨rfl, rfl⟩) | (go_at_call 65; refine (rmost_16 _ _).mono ?_; rintro e ws ⟨rfl, rfl⟩))
      go_ret
      exact ⟨ret_b (Eq.trans (by first | (simp [rng, mosts, rmo, ha]; done) | (simp [rng, mosts, rmo, ha]; omega) | (rw [Bool.eq_iff_iff]; simp [rng, mosts, rmo, ha] <;> omega)) HV.out.symm), by go_grown⟩
  · have hb2 : (b == 0) = false := by simpa using hb
    have hb3 : (b != 0) = true := by simpa using hb
    go_enter Tryd.func51, Tryd.ntmps51
    go_wp2_with (first | (go_at_call 22; refine (rOperands_10 _).mono ?_; rintro e ws ⟨rfl, rfl⟩) | (go_at_call 64; refine (rin_any _ _ _ _).mono ?_; rintro e ws ⟨rfl, rfl⟩) | (go_at_call 65; refine (rmost_10 _ _).mono ?_; rintro e ws ⟨rfl, rfl⟩) | (go_at_call 65; refine (rmost_7 _ _).mono ?_; rintro e ws ⟨rfl, rfl⟩) | (go_at_call 65; refine (rmost_16 _ _).mono ?_; rintro e ws ⟨rfl, rfl⟩))
    go_ret
    exact ⟨ret_b (Eq.trans (by first | (simp [rng, mosts, rmo, hb]; done) | (simp [rng, mosts, rmo, hb]; omega) | (rw [Bool.eq_iff_iff]; simp [rng, mosts, rmo, hb] <;> omega)) HV.out.symm), by go_grown⟩
set_option maxHeartbeats 4000000 in
theorem rValid_11 (a b : Int) (p : Bool) (w : World) :
    Calls Tryd.prog 51 #[.agg #[.int .i64 11, .int .i64 a, .int .i64 b], .bool p] w fun e w' => e = .returned (.bool (vld 11 a b p)) ∧ Below w.heap.size w w' := by
  have HV := hide (vld_nat 11 (by omega) a b p)
  have s1 : (sp 11).a = 0 := rfl
  have s2 : (sp 11).b = 0 := rfl
  rw [s1, s2] at HV
  clear s1 s2
  by_cases hb : b = 0
  · subst hb
    by_cases ha : a = 0
    · subst ha
      go_enter Tryd.func51, Tryd.ntmps51
      go_wp2_with (first | (go_at_call 22; refine (rOperands_11 _).mono ?_; rintro e ws ⟨rfl, rfl⟩) | (go_at_call 64; refine (rin_any _ _ _ _).mono ?_; rintro e ws ⟨rfl, rfl⟩) | (go_at_call 65; refine (rmost_10 _ _).mono ?_; rintro e ws ⟨rfl, rfl⟩) | (go_at_call 65; refine (rmost_7 _ _).mono ?_; rintro e ws ⟨rfl, rfl⟩) | (go_at_call 65; refine (rmost_16 _ _).mono ?_; rintro e ws ⟨rfl, rfl⟩))
      go_ret
      exact ⟨ret_b (Eq.trans (by first | (simp [rng, mosts, rmo]; done) | (simp [rng, mosts, rmo]; omega) | (rw [Bool.eq_iff_iff]; simp [rng, mosts, rmo] <;> omega)) HV.out.symm), by go_grown⟩
    · have ha2 : (a == 0) = false := by simpa using ha
      have ha3 : (a != 0) = true := by simpa using ha
      go_enter Tryd.func51, Tryd.ntmps51
      go_wp2_with (first | (go_at_call 22; refine (rOperands_11 _).mono ?_; rintro e ws ⟨rfl, rfl⟩) | (go_at_call 64; refine (rin_any _ _ _ _).mono ?_; rintro e ws ⟨rfl, rfl⟩) | (go_at_call 65; refine (rmost_10 _ _).mono ?_; rintro e ws ⟨rfl, rfl⟩) | (go_at_call 65; refine (rmost_7 _ _).mono ?_; rintro e ws ⟨rfl, rfl⟩) | (go_at_call 65; refine (rmost_16 _ _).mono ?_; rintro e ws ⟨rfl, rfl⟩))
      go_ret
      exact ⟨ret_b (Eq.trans (by first | (simp [rng, mosts, rmo, ha]; done) | (simp [rng, mosts, rmo, ha]; omega) | (rw [Bool.eq_iff_iff]; simp [rng, mosts, rmo, ha] <;> omega)) HV.out.symm), by go_grown⟩
  · have hb2 : (b == 0) = false := by simpa using hb
    have hb3 : (b != 0) = true := by simpa using hb
    go_enter Tryd.func51, Tryd.ntmps51
    go_wp2_with (first | (go_at_call 22; refine (rOperands_11 _).mono ?_; rintro e ws ⟨rfl, rfl⟩) | (go_at_call 64; refine (rin_any _ _ _ _).mono ?_; rintro e ws ⟨rfl, rfl⟩) | (go_at_call 65; refine (rmost_10 _ _).mono ?_; rintro e ws ⟨rfl, rfl⟩) | (go_at_call 65; refine (rmost_7 _ _).mono ?_; rintro e ws ⟨rfl, rfl⟩) | (go_at_call 65; refine (rmost_16 _ _).mono ?_; rintro e ws ⟨rfl, rfl⟩))
    go_ret
    exact ⟨ret_b (Eq.trans (by first | (simp [rng, mosts, rmo, hb]; done) | (simp [rng, mosts, rmo, hb]; omega) | (rw [Bool.eq_iff_iff]; simp [rng, mosts, rmo, hb] <;> omega)) HV.out.symm), by go_grown⟩
set_option maxHeartbeats 4000000 in
theorem rValid_13 (a b : Int) (p : Bool) (w : World) :
    Calls Tryd.prog 51 #[.agg #[.int .i64 13, .int .i64 a, .int .i64 b], .bool p] w fun e w' => e = .returned (.bool (vld 13 a b p)) ∧ Below w.heap.size w w' := by
  have HV := hide (vld_nat 13 (by omega) a b p)
  have s1 : (sp 13).a = 0 := rfl
  have s2 : (sp 13).b = 0 := rfl
  rw [s1, s2] at HV
  clear s1 s2
  by_cases hb : b = 0
  · subst hb
    by_cases ha : a = 0
    · subst ha
      go_enter Tryd.func51, Tryd.ntmps51
      go_wp2_with (first | (go_at_call 22; refine (rOperands_13 _).mono ?_; rintro e ws ⟨rfl, rfl⟩) | (go_at_call 64; refine (rin_any _ _ _ _).mono ?_; rintro e ws ⟨rfl, rfl⟩) | (go_at_call 65; refine (rmost_10 _ _).mono ?_; rintro e ws ⟨rfl, rfl⟩) | (go_at_call 65; refine (rmost_7 _ _).mono ?_; rintro e ws ⟨rfl, rfl⟩) | (go_at_call 65; refine (rmost_16 _ _).mono ?_; rintro e ws ⟨rfl, rfl⟩))
      go_ret
      exact ⟨ret_b (Eq.trans (by first | (simp [rng, mosts, rmo]; done) | (simp [rng, mosts, rmo]; omega) | (rw [Bool.eq_iff_iff]; simp [rng, mosts, rmo] <;> omega)) HV.out.symm), by go_grown⟩
    · have ha2 : (a == 0) = false := by simpa using ha
      have ha3 : (a != 0) = true := by simpa using ha
      go_enter Tryd.func51, Tryd.ntmps51
      go_wp2_with (first | (go_at_call 22; refine (rOperands_13 _).mono ?_; rintro e ws ⟨rfl, rfl⟩) | (go_at_call 64; refine (rin_any _ _ _ _).mono ?_; rintro e ws ⟨rfl, rfl⟩) | (go_at_call 65; refine (rmost_10 _ _).mono ?_; rintro e ws ⟨rfl, rfl⟩) | (go_at_call 65; refine (rmost_7 _ _).mono ?_; rintro e ws ⟨rfl, rfl⟩) | (go_at_call 65; refine (rmost_16 _ _).mono ?_; rintro e ws ⟨rfl, rfl⟩))
      go_ret
      exact ⟨ret_b (Eq.trans (by first | (simp [rng, mosts, rmo, ha]; done) | (simp [rng, mosts, rmo, ha]; omega) | (rw [Bool.eq_iff_iff]; simp [rng, mosts, rmo, ha] <;> omega)) HV.out.symm), by go_grown⟩
  · have hb2 : (b == 0) = false := by simpa using hb
    have hb3 : (b != 0) = true := by simpa using hb
    go_enter Tryd.func51, Tryd.ntmps51
    go_wp2_with (first | (go_at_call 22; refine (rOperands_13 _).mono ?_; rintro e ws ⟨rfl, rfl⟩) | (go_at_call 64; refine (rin_any _ _ _ _).mono ?_; rintro e ws ⟨rfl, rfl⟩) | (go_at_call 65; refine (rmost_10 _ _).mono ?_; rintro e ws ⟨rfl, rfl⟩) | (go_at_call 65; refine (rmost_7 _ _).mono ?_; rintro e ws ⟨rfl, rfl⟩) | (go_at_call 65; refine (rmost_16 _ _).mono ?_; rintro e ws ⟨rfl, rfl⟩))
    go_ret
    exact ⟨ret_b (Eq.trans (by first | (simp [rng, mosts, rmo, hb]; done) | (simp [rng, mosts, rmo, hb]; omega) | (rw [Bool.eq_iff_iff]; simp [rng, mosts, rmo, hb] <;> omega)) HV.out.symm), by go_grown⟩
set_option maxHeartbeats 4000000 in
theorem rValid_14 (a b : Int) (p : Bool) (w : World) :
    Calls Tryd.prog 51 #[.agg #[.int .i64 14, .int .i64 a, .int .i64 b], .bool p] w fun e w' => e = .returned (.bool (vld 14 a b p)) ∧ Below w.heap.size w w' := by
  have HV := hide (vld_nat 14 (by omega) a b p)
  have s1 : (sp 14).a = 4 := rfl
  have s2 : (sp 14).b = 0 := rfl
  rw [s1, s2] at HV
  clear s1 s2
  by_cases hb : b = 0
  · subst hb
    cases p
    case false =>
      go_enter Tryd.func51, Tryd.ntmps51
      go_wp2_with (first | (go_at_call 22; refine (rOperands_14 _).mono ?_; rintro e ws ⟨rfl, rfl⟩) | (go_at_call 64; refine (rin_any _ _ _ _).mono ?_; rintro e ws ⟨rfl, rfl⟩) | (go_at_call 65; refine (rmost_10 _ _).mono ?_; rintro e ws ⟨rfl, rfl⟩) | (go_at_call 65; refine (rmost_7 _ _).mono ?_; rintro e ws ⟨rfl, rfl⟩) | (go_at_call 65; refine (rmost_16 _ _).mono ?_; rintro e ws ⟨rfl, rfl⟩))
      go_quiet ((first | (go_at_call 65; with_reducible exact Calls.quiet_of_same ((rmost_10 false _).mono (fun _ _ h => ⟨h.1, h.2.symm⟩))) | (go_at_call 64; with_reducible exact Calls.quiet_of_same ((rin_any a 0 (rmo 10 false) _).mono (fun _ _ h => ⟨h.1, h.2.symm⟩)))))
      go_wp2_with fail
      go_ret
      exact ⟨ret_b (Eq.trans (by first | (simp [rng, mosts, rmo]; done) | (simp [rng, mosts, rmo]; omega) | (rw [Bool.eq_iff_iff]; simp [rng, mosts, rmo] <;> omega)) HV.out.symm), drewN_below (by go_grown) _⟩
    case true =>
      go_enter Tryd.func51, Tryd.ntmps51
      go_wp2_with (first | (go_at_call 22; refine (rOperands_14 _).mono ?_; rintro e ws ⟨rfl, rfl⟩) | (go_at_call 64; refine (rin_any _ _ _ _).mono ?_; rintro e ws ⟨rfl, rfl⟩) | (go_at_call 65; refine (rmost_10 _ _).mono ?_; rintro e ws ⟨rfl, rfl⟩) | (go_at_call 65; refine (rmost_7 _ _).mono ?_; rintro e ws ⟨rfl, rfl⟩) | (go_at_call 65; refine (rmost_16 _ _).mono ?_; rintro e ws ⟨rfl, rfl⟩))
      go_quiet ((first | (go_at_call 65; with_reducible exact Calls.quiet_of_same ((rmost_10 true _).mono (fun _ _ h => ⟨h.1, h.2.symm⟩))) | (go_at_call 64; with_reducible exact Calls.quiet_of_same ((rin_any a 0 (rmo 10 true) _).mono (fun _ _ h => ⟨h.1, h.2.symm⟩)))))
      go_wp2_with fail
      go_ret
      exact ⟨ret_b (Eq.trans (by first | (simp [rng, mosts, rmo]; done) | (simp [rng, mosts, rmo]; omega) | (rw [Bool.eq_iff_iff]; simp [rng, mosts, rmo] <;> omega)) HV.out.symm), drewN_below (by go_grown) _⟩
  · have hb2 : (b == 0) = false := by simpa using hb
    have hb3 : (b != 0) = true := by simpa using hb
    go_enter Tryd.func51, Tryd.ntmps51
    go_wp2_with (first | (go_at_call 22; refine (rOperands_14 _).mono ?_; rintro e ws ⟨rfl, rfl⟩) | (go_at_call 64; refine (rin_any _ _ _ _).mono ?_; rintro e ws ⟨rfl, rfl⟩) | (go_at_call 65; refine (rmost_10 _ _).mono ?_; rintro e ws ⟨rfl, rfl⟩) | (go_at_call 65; refine (rmost_7 _ _).mono ?_; rintro e ws ⟨rfl, rfl⟩) | (go_at_call 65; refine (rmost_16 _ _).mono ?_; rintro e ws ⟨rfl, rfl⟩))
    go_ret
    exact ⟨ret_b (Eq.trans (by first | (simp [rng, mosts, rmo, hb]; done) | (simp [rng, mosts, rmo, hb]; omega) | (rw [Bool.eq_iff_iff]; simp [rng, mosts, rmo, hb] <;> omega)) HV.out.symm), by go_grown⟩
set_option maxHeartbeats 4000000 in
theorem rValid_15 (a b : Int) (p : Bool) (w : World) :
    Calls Tryd.prog 51 #[.agg #[.int .i64 15, .int .i64 a, .int .i64 b], .bool p] w fun e w' => e = .returned (.bool (vld 15 a b p)) ∧ Below w.heap.size w w' := by
  have HV := hide (vld_nat 15 (by omega) a b p)
  have s1 : (sp 15).a = 5 := rfl
  have s2 : (sp 15).b = 0 := rfl
  rw [s1, s2] at HV
  clear s1 s2
  by_cases hb : b = 0
  · subst hb
    go_enter Tryd.func51, Tryd.ntmps51
    go_wp2_with (first | (go_at_call 22; refine (rOperands_15 _).mono ?_; rintro e ws ⟨rfl, rfl⟩) | (go_at_call 64; refine (rin_any _ _ _ _).mono ?_; rintro e ws ⟨rfl, rfl⟩) | (go_at_call 65; refine (rmost_10 _ _).mono ?_; rintro e ws ⟨rfl, rfl⟩) | (go_at_call 65; refine (rmost_7 _ _).mono ?_; rintro e ws ⟨rfl, rfl⟩) | (go_at_call 65; refine (rmost_16 _ _).mono ?_; rintro e ws ⟨rfl, rfl⟩))
    go_ret
    exact ⟨ret_b (Eq.trans (by first | (simp [rng, mosts, rmo]; done) | (simp [rng, mosts, rmo]; omega) | (rw [Bool.eq_iff_iff]; simp [rng, mosts, rmo] <;> omega)) HV.out.symm), by go_grown⟩
  · have hb2 : (b == 0) = false := by simpa using hb
    have hb3 : (b != 0) = true := by simpa using hb
    go_enter Tryd.func51, Tryd.ntmps51
    go_wp2_with (first | (go_at_call 22; refine (rOperands_15 _).mono ?_; rintro e ws ⟨rfl, rfl⟩) | (go_at_call 64; refine (rin_any _ _ _ _).mono ?_; rintro e ws ⟨rfl, rfl⟩) | (go_at_call 65; refine (rmost_10 _ _).mono ?_; rintro e ws ⟨rfl, rfl⟩) | (go_at_call 65; refine (rmost_7 _ _).mono ?_; rintro e ws ⟨rfl, rfl⟩) | (go_at_call 65; refine (rmost_16 _ _).mono ?_; rintro e ws ⟨rfl, rfl⟩))
    go_ret
    exact ⟨ret_b (Eq.trans (by first | (simp [rng, mosts, rmo, hb]; done) | (simp [rng, mosts, rmo, hb]; omega) | (rw [Bool.eq_iff_iff]; simp [rng, mosts, rmo, hb] <;> omega)) HV.out.symm), by go_grown⟩
set_option maxHeartbeats 4000000 in
theorem rValid_17 (a b : Int) (p : Bool) (w : World) :
    Calls Tryd.prog 51 #[.agg #[.int .i64 17, .int .i64 a, .int .i64 b], .bool p] w fun e w' => e = .returned (.bool (vld 17 a b p)) ∧ Below w.heap.size w w' := by
  have HV := hide (vld_nat 17 (by omega) a b p)
  have s1 : (sp 17).a = 6 := rfl
  have s2 : (sp 17).b = 0 := rfl
  rw [s1, s2] at HV
  clear s1 s2
  by_cases hb : b = 0
  · subst hb
    cases p
    case false =>
      go_enter Tryd.func51, Tryd.ntmps51
      go_wp2_with (first | (go_at_call 22; refine (rOperands_17 _).mono ?_; rintro e ws ⟨rfl, rfl⟩) | (go_at_call 64; refine (rin_any _ _ _ _).mono ?_; rintro e ws ⟨rfl, rfl⟩) | (go_at_call 65; refine (rmost_10 _ _).mono ?_; rintro e ws ⟨rfl, rfl⟩) | (go_at_call 65; refine (rmost_7 _ _).mono ?_; rintro e ws ⟨rfl, rfl⟩) | (go_at_call 65; refine (rmost_16 _ _).mono ?_; rintro e ws ⟨rfl, rfl⟩))
      go_quiet ((first | (go_at_call 65; with_reducible exact Calls.quiet_of_same ((rmost_7 false _).mono (fun _ _ h => ⟨h.1, h.2.symm⟩))) | (go_at_call 64; with_reducible exact Calls.quiet_of_same ((rin_any a 0 (rmo 7 false) _).mono (fun _ _ h => ⟨h.1, h.2.symm⟩)))))
      go_wp2_with fail
      go_ret
      exact ⟨ret_b (Eq.trans (by first | (simp [rng, mosts, rmo]; done) | (simp [rng, mosts, rmo]; omega) | (rw [Bool.eq_iff_iff]; simp [rng, mosts, rmo] <;> omega)) HV.out.symm), drewN_below (by go_grown) _⟩
    case true =>
      go_enter Tryd.func51, Tryd.ntmps51
      go_wp2_with (first | (go_at_call 22; refine (rOperands_17 _).mono ?_; rintro e ws ⟨rfl, rfl⟩) | (go_at_call 64; refine (rin_any _ _ _ _).mono ?_; rintro e ws ⟨rfl, rfl⟩) | (go_at_call 65; refine (rmost_10 _ _).mono ?_; rintro e ws ⟨rfl, rfl⟩) | (go_at_call 65; refine (rmost_7 _ _).mono ?_; rintro e ws ⟨rfl, rfl⟩) | (go_at_call 65; refine (rmost_16 _ _).mono ?_; rintro e ws ⟨rfl, rfl⟩))
      go_quiet ((first | (go_at_call 65; with_reducible exact Calls.quiet_of_same ((rmost_7 true _).mono (fun _ _ h => ⟨h.1, h.2.symm⟩))) | (go_at_call 64; with_reducible exact Calls.quiet_of_same ((rin_any a 0 (rmo 7 true) _).mono (fun _ _ h => ⟨h.1, h.2.symm⟩)))))
      go_wp2_with fail
      go_ret
      exact ⟨ret_b (Eq.trans (by first | (simp [rng, mosts, rmo]; done) | (simp [rng, mosts, rmo]; omega) | (rw [Bool.eq_iff_iff]; simp [rng, mosts, rmo] <;> omega)) HV.out.symm), drewN_below (by go_grown) _⟩
  · have hb2 : (b == 0) = false := by simpa using hb
    have hb3 : (b != 0) = true := by simpa using hb
    go_enter Tryd.func51, Tryd.ntmps51
    go_wp2_with (first | (go_at_call 22; refine (rOperands_17 _).mono ?_; rintro e ws ⟨rfl, rfl⟩) | (go_at_call 64; refine (rin_any _ _ _ _).mono ?_; rintro e ws ⟨rfl, rfl⟩) | (go_at_call 65; refine (rmost_10 _ _).mono ?_; rintro e ws ⟨rfl, rfl⟩) | (go_at_call 65; refine (rmost_7 _ _).mono ?_; rintro e ws ⟨rfl, rfl⟩) | (go_at_call 65; refine (rmost_16 _ _).mono ?_; rintro e ws ⟨rfl, rfl⟩))
    go_ret
    exact ⟨ret_b (Eq.trans (by first | (simp [rng, mosts, rmo, hb]; done) | (simp [rng, mosts, rmo, hb]; omega) | (rw [Bool.eq_iff_iff]; simp [rng, mosts, rmo, hb] <;> omega)) HV.out.symm), by go_grown⟩
set_option maxHeartbeats 4000000 in
theorem rValid_18 (a b : Int) (p : Bool) (w : World) :
    Calls Tryd.prog 51 #[.agg #[.int .i64 18, .int .i64 a, .int .i64 b], .bool p] w fun e w' => e = .returned (.bool (vld 18 a b p)) ∧ Below w.heap.size w w' := by
  have HV := hide (vld_nat 18 (by omega) a b p)
  have s1 : (sp 18).a = 6 := rfl
  have s2 : (sp 18).b = 0 := rfl
  rw [s1, s2] at HV
  clear s1 s2
  by_cases hb : b = 0
  · subst hb
    cases p
    case false =>
      go_enter Tryd.func51, Tryd.ntmps51
      go_wp2_with (first | (go_at_call 22; refine (rOperands_18 _).mono ?_; rintro e ws ⟨rfl, rfl⟩) | (go_at_call 64; refine (rin_any _ _ _ _).mono ?_; rintro e ws ⟨rfl, rfl⟩) | (go_at_call 65; refine (rmost_10 _ _).mono ?_; rintro e ws ⟨rfl, rfl⟩) | (go_at_call 65; refine (rmost_7 _ _).mono ?_; rintro e ws ⟨rfl, rfl⟩) | (go_at_call 65; refine (rmost_16 _ _).mono ?_; rintro e ws ⟨rfl, rfl⟩))
      go_quiet ((first | (go_at_call 65; with_reducible exact Calls.quiet_of_same ((rmost_7 false _).mono (fun _ _ h => ⟨h.1, h.2.symm⟩))) | (go_at_call 64; with_reducible exact Calls.quiet_of_same ((rin_any a 0 (rmo 7 false) _).mono (fun _ _ h => ⟨h.1, h.2.symm⟩)))))
      go_wp2_with fail
      go_ret
      exact ⟨ret_b (Eq.trans (by first | (simp [rng, mosts, rmo]; done) | (simp [rng, mosts, rmo]; omega) | (rw [Bool.eq_iff_iff]; simp [rng, mosts, rmo] <;> omega)) HV.out.symm), drewN_below (by go_grown) _⟩
    case true =>
      go_enter Tryd.func51, Tryd.ntmps51
      go_wp2_with (first | (go_at_call 22; refine (rOperands_18 _).mono ?_; rintro e ws ⟨rfl, rfl⟩) | (go_at_call 64; refine (rin_any _ _ _ _).mono ?_; rintro e ws ⟨rfl, rfl⟩) | (go_at_call 65; refine (rmost_10 _ _).mono ?_; rintro e ws ⟨rfl, rfl⟩) | (go_at_call 65; refine (rmost_7 _ _).mono ?_; rintro e ws ⟨rfl, rfl⟩) | (go_at_call 65; refine (rmost_16 _ _).mono ?_; rintro e ws ⟨rfl, rfl⟩))
      go_quiet ((first | (go_at_call 65; with_reducible exact Calls.quiet_of_same ((rmost_7 true _).mono (fun _ _ h => ⟨h.1, h.2.symm⟩))) | (go_at_call 64; with_reducible exact Calls.quiet_of_same ((rin_any a 0 (rmo 7 true) _).mono (fun _ _ h => ⟨h.1, h.2.symm⟩)))))
      go_wp2_with fail
      go_ret
      exact ⟨ret_b (Eq.trans (by first | (simp [rng, mosts, rmo]; done) | (simp [rng, mosts, rmo]; omega) | (rw [Bool.eq_iff_iff]; simp [rng, mosts, rmo] <;> omega)) HV.out.symm), drewN_below (by go_grown) _⟩
  · have hb2 : (b == 0) = false := by simpa using hb
    have hb3 : (b != 0) = true := by simpa using hb
    go_enter Tryd.func51, Tryd.ntmps51
    go_wp2_with (first | (go_at_call 22; refine (rOperands_18 _).mono ?_; rintro e ws ⟨rfl, rfl⟩) | (go_at_call 64; refine (rin_any _ _ _ _).mono ?_; rintro e ws ⟨rfl, rfl⟩) | (go_at_call 65; refine (rmost_10 _ _).mono ?_; rintro e ws ⟨rfl, rfl⟩) | (go_at_call 65; refine (rmost_7 _ _).mono ?_; rintro e ws ⟨rfl, rfl⟩) | (go_at_call 65; refine (rmost_16 _ _).mono ?_; rintro e ws ⟨rfl, rfl⟩))
    go_ret
    exact ⟨ret_b (Eq.trans (by first | (simp [rng, mosts, rmo, hb]; done) | (simp [rng, mosts, rmo, hb]; omega) | (rw [Bool.eq_iff_iff]; simp [rng, mosts, rmo, hb] <;> omega)) HV.out.symm), by go_grown⟩
end Ec
end Go.Proofs.YteeljnlepbnhkaaDoor
