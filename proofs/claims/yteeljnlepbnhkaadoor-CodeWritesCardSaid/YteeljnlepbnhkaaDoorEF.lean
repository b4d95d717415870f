/- The reference: Valid, of the operations with one operand or none. -/
import Derived.Test.YteeljnlepbnhkaaDoorED
set_option linter.unusedVariables false
set_option linter.unusedSimpArgs false
namespace Go.Proofs.YteeljnlepbnhkaaDoor
open Go.RowKit Go.Sort
namespace Ec

set_option maxHeartbeats 4000000 in
theorem rValid_19 (a b : Int) (p : Bool) (w : World) :
    Calls Tryd.prog 51 #[.agg #[.int .i64 19, .int .i64 a, .int .i64 b], .bool p] w fun e w' => e = .returned (.bool (vld 19 a b p)) ∧ Below w.heap.size w w' := by
  have HV := hide (vld_nat 19 (by omega) a b p)
  have s1 : (sp 19).a = 0 := rfl
  have s2 : (sp 19).b = 0 := rfl
  rw [s1, s2] at HV
  clear s1 s2
  by_cases hb : b = 0
  · subst hb
    by_cases ha : a = 0
    · subst ha
      go_enter Tryd.func51, Tryd.ntmps51
      go_wp2_with (first | (go_at_call 22; refine (rOperands_19 _).mono ?_; rintro e ws ⟨rfl, rfl⟩) | (go_at_call 64; refine (rin_any _ _ _ _).mono ?_; rintro e ws ⟨rfl, rfl⟩) | (go_at_call 65; refine (rmost_10 _ _).mono ?_; rintro e ws ⟨rfl, rfl⟩) | (go_at_call 65; refine (rmost_7 _ _).mono ?_; rintro e ws ⟨rfl, rfl⟩) | (go_at_call 65; refine (rmost_16 _ _).mono ?_; rintro e ws ⟨rfl, rfl⟩))
      go_ret
      exact ⟨ret_b (Eq.trans (by first | (simp [rng, mosts, rmo]; done) | (simp [rng, mosts, rmo]; omega) | (rw [Bool.eq_iff_iff]; simp [rng, mosts, rmo] <;> omega)) HV.out.symm), by go_grown⟩
    · have ha2 : (a == 0) = false := by simpa using ha
      have ha3 : (a != 0) = true := by simpa using ha
      go_enter Tryd.func51, Tryd.ntmps51
      go_wp2_with (first | (go_at_call 22; refine (rOperands_19 _).mono ?_; rintro e ws ⟨rfl, rfl⟩) | (go_at_call 64; refine (rin_any _ _ _ _).mono ?_; rintro e ws ⟨rfl, rfl⟩) | (go_at_call 65; refine (rmost_10 _ _).mono ?_; rintro e ws ⟨rfl, rfl⟩) | (go_at_call 65; refine (rmost_7 _ _).mono ?_; rintro e ws ⟨rfl, rfl⟩) | (go_at_call 65; refine (rmost_16 _ _).mono ?_; rintro e ws ⟨rfl, rfl⟩))
      go_ret
      exact ⟨ret_b (Eq.trans (by first | (simp [rng, mosts, rmo, ha]; done) | (simp [rng, mosts, rmo, ha]; omega) | (rw [Bool.eq_iff_iff]; simp [rng, mosts, rmo, ha] <;> omega)) HV.out.symm), by go_grown⟩
  · have hb2 : (b == 0) = false := by simpa using hb
    have hb3 : (b != 0) = true := by simpa using hb
    go_enter Tryd.func51, Tryd.ntmps51
    go_wp2_with (first | (go_at_call 22; refine (rOperands_19 _).mono ?_; rintro e ws ⟨rfl, rfl⟩) | (go_at_call 64; refine (rin_any _ _ _ _).mono ?_; rintro e ws ⟨rfl, rfl⟩) | (go_at_call 65; refine (rmost_10 _ _).mono ?_; rintro e ws ⟨rfl, rfl⟩) | (go_at_call 65; refine (rmost_7 _ _).mono ?_; rintro e ws ⟨rfl, rfl⟩) | (go_at_call 65; refine (rmost_16 _ _).mono ?_; rintro e ws ⟨rfl, rfl⟩))
    go_ret
    exact ⟨ret_b (Eq.trans (by first | (simp [rng, mosts, rmo, hb]; done) | (simp [rng, mosts, rmo, hb]; omega) | (rw [Bool.eq_iff_iff]; simp [rng, mosts, rmo, hb] <;> omega)) HV.out.symm), by go_grown⟩
set_option maxHeartbeats 4000000 in
theorem rValid_20 (a b : Int) (p : Bool) (w : World) :
    Calls Tryd.prog 51 #[.agg #[.int .i64 20, .int .i64 a, .int .i64 b], .bool p] w fun e w' => e = .returned (.bool (vld 20 a b p)) ∧ Below w.heap.size w w' := by
  have HV := hide (vld_nat 20 (by omega) a b p)
  have s1 : (sp 20).a = 0 := rfl
  have s2 : (sp 20).b = 0 := rfl
  rw [s1, s2] at HV
  clear s1 s2
  by_cases hb : b = 0
  · subst hb
    by_cases ha : a = 0
    · subst ha
      go_enter Tryd.func51, Tryd.ntmps51
      go_wp2_with (first | (go_at_call 22; refine (rOperands_20 _).mono ?_; rintro e ws ⟨rfl, rfl⟩) | (go_at_call 64; refine (rin_any _ _ _ _).mono ?_; rintro e ws ⟨rfl, rfl⟩) | (go_at_call 65; refine (rmost_10 _ _).mono ?_; rintro e ws ⟨rfl, rfl⟩) | (go_at_call 65; refine (rmost_7 _ _).mono ?_; rintro e ws ⟨rfl, rfl⟩) | (go_at_call 65; refine (rmost_16 _ _).mono ?_; rintro e ws ⟨rfl, rfl⟩))
      go_ret
      exact ⟨ret_b (Eq.trans (by first | (simp [rng, mosts, rmo]; done) | (simp [rng, mosts, rmo]; omega) | (rw [Bool.eq_iff_iff]; simp [rng, mosts, rmo] <;> omega)) HV.out.symm), by go_grown⟩
    · have ha2 : (a == 0) = false := by simpa using ha
      have ha3 : (a != 0) = true := by simpa using ha
      go_enter Tryd.func51, Tryd.ntmps51
      go_wp2_with (first | (go_at_call 22; refine (rOperands_20 _).mono ?_; rintro e ws ⟨rfl, rfl⟩) | (go_at_call 64; refine (rin_any _ _ _ _).mono ?_; rintro e ws ⟨rfl, rfl⟩) | (go_at_call 65; refine (rmost_10 _ _).mono ?_; rintro e ws ⟨rfl, rfl⟩) | (go_at_call 65; refine (rmost_7 _ _).mono ?_; rintro e ws ⟨rfl, rfl⟩) | (go_at_call 65; refine (rmost_16 _ _).mono ?_; rintro e ws ⟨rfl, rfl⟩))
      go_ret
      exact ⟨ret_b (Eq.trans (by first | (simp [rng, mosts, rmo, ha]; done) | (simp [rng, mosts, rmo, ha]; omega) | (rw [Bool.eq_iff_iff]; simp [rng, mosts, rmo, ha] <;> omega)) HV.out.symm), by go_grown⟩
  · have hb2 : (b == 0) = false := by simpa using hb
    have hb3 : (b != 0) = true := by simpa using hb
    go_enter Tryd.func51, Tryd.ntmps51
    go_wp2_with (first | (go_at_call 22; refine (rOperands_20 _).mono ?_; rintro e ws ⟨rfl, rfl⟩) | (go_at_call 64; refine (rin_any _ _ _ _).mono ?_; rintro e ws ⟨rfl, rfl⟩) | (go_at_call 65; refine (rmost_10 _ _).mono ?_; rintro e ws ⟨rfl, rfl⟩) | (go_at_call 65; refine (rmost_7 _ _).mono ?_; rintro e ws ⟨rfl, rfl⟩) | (go_at_call 65; refine (rmost_16 _ _).mono ?_; rintro e ws ⟨rfl, rfl⟩))
    go_ret
    exact ⟨ret_b (Eq.trans (by first | (simp [rng, mosts, rmo, hb]; done) | (simp [rng, mosts, rmo, hb]; omega) | (rw [Bool.eq_iff_iff]; simp [rng, mosts, rmo, hb] <;> omega)) HV.out.symm), by go_grown⟩
set_option maxHeartbeats 4000000 in
theorem rValid_21 (a b : Int) (p : Bool) (w : World) :
    Calls Tryd.prog 51 #[.agg #[.int .i64 21, .int .i64 a, .int .i64 b], .bool p] w fun e w' => e = .returned (.bool (vld 21 a b p)) ∧ Below w.heap.size w w' := by
  have HV := hide (vld_nat 21 (by omega) a b p)
  have s1 : (sp 21).a = 0 := rfl
  have s2 : (sp 21).b = 0 := rfl
  rw [s1, s2] at HV
  clear s1 s2
  by_cases hb : b = 0
  · subst hb
    by_cases ha : a = 0
    · subst ha
      go_enter Tryd.func51, Tryd.ntmps51
      go_wp2_with (first | (go_at_call 22; refine (rOperands_21 _).mono ?_; rintro e ws ⟨rfl, rfl⟩) | (go_at_call 64; refine (rin_any _ _ _ _).mono ?_; rintro e ws ⟨rfl, rfl⟩) | (go_at_call 65; refine (rmost_10 _ _).mono ?_; rintro e ws ⟨rfl, rfl⟩) | (go_at_call 65; refine (rmost_7 _ _).mono ?_; rintro e ws ⟨rfl, rfl⟩) | (go_at_call 65; refine (rmost_16 _ _).mono ?_; rintro e ws ⟨rfl, rfl⟩))
      go_ret
      exact ⟨ret_b (Eq.trans (by first | (simp [rng, mosts, rmo]; done) | (simp [rng, mosts, rmo]; omega) | (rw [Bool.eq_iff_iff]; simp [rng, mosts, rmo] <;> omega)) HV.out.symm), by go_grown⟩
    · have ha2 : (a == 0) = false := by simpa using ha
      have ha3 : (a != 0) = true := by simpa using ha
      go_enter Tryd.func51, Tryd.ntmps51
      go_wp2_with (first | (go_at_call 22; refine (rOperands_21 _).mono ?_; rintro e ws ⟨rfl, rfl⟩) | (go_at_call 64; refine (rin_any _ _ _ _).mono ?_; rintro e ws ⟨rfl, rfl⟩) | (go_at_call 65; refine (rmost_10 _ _).mono ?_; rintro e ws ⟨rfl, rfl⟩) | (go_at_call 65; refine (rmost_7 _ _).mono ?_; rintro e ws ⟨rfl, rfl⟩) | (go_at_call 65; refine (rmost_16 _ _).mono ?_; rintro e ws ⟨rfl, rfl⟩))
      go_ret
      exact ⟨ret_b (Eq.trans (by first | (simp [rng, mosts, rmo, ha]; done) | (simp [rng, mosts, rmo, ha]; omega) | (rw [Bool.eq_iff_iff]; simp [rng, mosts, rmo, ha] <;> omega)) HV.out.symm), by go_grown⟩
  · have hb2 : (b == 0) = false := by simpa using hb
    have hb3 : (b != 0) = true := by simpa using hb
    go_enter Tryd.func51, Tryd.ntmps51
    go_wp2_with (first | (go_at_call 22; refine (rOperands_21 _).mono ?_; rintro e ws ⟨rfl, rfl⟩) | (go_at_call 64; refine (rin_any _ _ _ _).mono ?_; rintro e ws ⟨rfl, rfl⟩) | (go_at_call 65; refine (rmost_10 _ _).mono ?_; rintro e ws ⟨rfl, rfl⟩) | (go_at_call 65; refine (rmost_7 _ _).mono ?_; rintro e ws ⟨rfl, rfl⟩) | (go_at_call 65; refine (rmost_16 _ _).mono ?_; rintro e ws ⟨rfl, rfl⟩))
    go_ret
    exact ⟨ret_b (Eq.trans (by first | (simp [rng, mosts, rmo, hb]; done) | (simp [rng, mosts, rmo, hb]; omega) | (rw [Bool.eq_iff_iff]; simp [rng, mosts, rmo, hb] <;> omega)) HV.out.symm), by go_grown⟩
set_option maxHeartbeats 4000000 in
theorem rValid_22 (a b : Int) (p : Bool) (w : World) :
    Calls Tryd.prog 51 #[.agg #[.int .i64 22, .int .i64 a, .int .i64 b], .bool p] w fun e w' => e = .returned (.bool (vld 22 a b p)) ∧ Below w.heap.size w w' := by
  have HV := hide (vld_nat 22 (by omega) a b p)
  have s1 : (sp 22).a = 7 := rfl
  have s2 : (sp 22).b = 0 := rfl
  rw [s1, s2] at HV
  clear s1 s2
  by_cases hb : b = 0
  · subst hb
    cases p
    case false =>
      go_enter Tryd.func51, Tryd.ntmps51
      go_wp2_with (first | (go_at_call 22; refine (rOperands_22 _).mono ?_; rintro e ws ⟨rfl, rfl⟩) | (go_at_call 64; refine (rin_any _ _ _ _).mono ?_; rintro e ws ⟨rfl, rfl⟩) | (go_at_call 65; refine (rmost_10 _ _).mono ?_; rintro e ws ⟨rfl, rfl⟩) | (go_at_call 65; refine (rmost_7 _ _).mono ?_; rintro e ws ⟨rfl, rfl⟩) | (go_at_call 65; refine (rmost_16 _ _).mono ?_; rintro e ws ⟨rfl, rfl⟩))
      go_quiet ((first | (go_at_call 65; with_reducible exact Calls.quiet_of_same ((rmost_10 false _).mono (fun _ _ h => ⟨h.1, h.2.symm⟩))) | (go_at_call 64; with_reducible exact Calls.quiet_of_same ((rin_any a 0 (rmo 10 false) _).mono (fun _ _ h => ⟨h.1, h.2.symm⟩)))))
      go_wp2_with fail
      go_ret
      exact ⟨ret_b (Eq.trans (by first | (simp [rng, mosts, rmo]; done) | (simp [rng, mosts, rmo]; omega) | (rw [Bool.eq_iff_iff]; simp [rng, mosts, rmo] <;> omega)) HV.out.symm), drewN_below (by go_grown) _⟩
    case true =>
      go_enter Tryd.func51, Tryd.ntmps51
      go_wp2_with (first | (go_at_call 22; refine (rOperands_22 _).mono ?_; rintro e ws ⟨rfl, rfl⟩) | (go_at_call 64; refine (rin_any _ _ _ _).mono ?_; rintro e ws ⟨rfl, rfl⟩) | (go_at_call 65; refine (rmost_10 _ _).mono ?_; rintro e ws ⟨rfl, rfl⟩) | (go_at_call 65; refine (rmost_7 _ _).mono ?_; rintro e ws ⟨rfl, rfl⟩) | (go_at_call 65; refine (rmost_16 _ _).mono ?_; rintro e ws ⟨rfl, rfl⟩))
      go_quiet ((first | (go_at_call 65; with_reducible exact Calls.quiet_of_same ((rmost_10 true _).mono (fun _ _ h => ⟨h.1, h.2.symm⟩))) | (go_at_call 64; with_reducible exact Calls.quiet_of_same ((rin_any a 0 (rmo 10 true) _).mono (fun _ _ h => ⟨h.1, h.2.symm⟩)))))
      go_wp2_with fail
      go_ret
      exact ⟨ret_b (Eq.trans (by first | (simp [rng, mosts, rmo]; done) | (simp [rng, mosts, rmo]; omega) | (rw [Bool.eq_iff_iff]; simp [rng, mosts, rmo] <;> omega)) HV.out.symm), drewN_below (by go_grown) _⟩
  · have hb2 : (b == 0) = false := by simpa using hb
    have hb3 : (b != 0) = true := by simpa using hb
    go_enter Tryd.func51, Tryd.ntmps51
    go_wp2_with (first | (go_at_call 22; refine (rOperands_22 _).mono ?_; rintro e ws ⟨rfl, rfl⟩) | (go_at_call 64; refine (rin_any _ _ _ _).mono ?_; rintro e ws ⟨rfl, rfl⟩) | (go_at_call 65; refine (rmost_10 _ _).mono ?_; rintro e ws ⟨rfl, rfl⟩) | (go_at_call 65; refine (rmost_7 _ _).mono ?_; rintro e ws ⟨rfl, rfl⟩) | (go_at_call 65; refine (rmost_16 _ _).mono ?_; rintro e ws ⟨rfl, rfl⟩))
    go_ret
    exact ⟨ret_b (Eq.trans (by first | (simp [rng, mosts, rmo, hb]; done) | (simp [rng, mosts, rmo, hb]; omega) | (rw [Bool.eq_iff_iff]; simp [rng, mosts, rmo, hb] <;> omega)) HV.out.symm), by go_grown⟩
set_option maxHeartbeats 4000000 in
theorem rValid_23 (a b : Int) (p : Bool) (w : World) :
    Calls Tryd.prog 51 #[.agg #[.int .i64 23, .int .i64 a, .int .i64 b], .bool p] w fun e w' => e = .returned (.bool (vld 23 a b p)) ∧ Below w.heap.size w w' := by
  have HV := hide (vld_nat 23 (by omega) a b p)
  have s1 : (sp 23).a = 7 := rfl
  have s2 : (sp 23).b = 0 := rfl
  rw [s1, s2] at HV
  clear s1 s2
  by_cases hb : b = 0
  · subst hb
    cases p
    case false =>
      go_enter Tryd.func51, Tryd.ntmps51
      go_wp2_with (first | (go_at_call 22; refine (rOperands_23 _).mono ?_; rintro e ws ⟨rfl, rfl⟩) | (go_at_call 64; refine (rin_any _ _ _ _).mono ?_; rintro e ws ⟨rfl, rfl⟩) | (go_at_call 65; refine (rmost_10 _ _).mono ?_; rintro e ws ⟨rfl, rfl⟩) | (go_at_call 65; refine (rmost_7 _ _).mono ?_; rintro e ws ⟨rfl, rfl⟩) | (go_at_call 65; refine (rmost_16 _ _).mono ?_; rintro e ws ⟨rfl, rfl⟩))
      go_quiet ((first | (go_at_call 65; with_reducible exact Calls.quiet_of_same ((rmost_10 false _).mono (fun _ _ h => ⟨h.1, h.2.symm⟩))) | (go_at_call 64; with_reducible exact Calls.quiet_of_same ((rin_any a 0 (rmo 10 false) _).mono (fun _ _ h => ⟨h.1, h.2.symm⟩)))))
      go_wp2_with fail
      go_ret
      exact ⟨ret_b (Eq.trans (by first | (simp [rng, mosts, rmo]; done) | (simp [rng, mosts, rmo]; omega) | (rw [Bool.eq_iff_iff]; simp [rng, mosts, rmo] <;> omega)) HV.out.symm), drewN_below (by go_grown) _⟩
    case true =>
      go_enter Tryd.func51, Tryd.ntmps51
      go_wp2_with (first | (go_at_call 22; refine (rOperands_23 _).mono ?_; rintro e ws ⟨rfl, rfl⟩) | (go_at_call 64; refine (rin_any _ _ _ _).mono ?_; rintro e ws ⟨rfl, rfl⟩) | (go_at_call 65; refine (rmost_10 _ _).mono ?_; rintro e ws ⟨rfl, rfl⟩) | (go_at_call 65; refine (rmost_7 _ _).mono ?_; rintro e ws ⟨rfl, rfl⟩) | (go_at_call 65; refine (rmost_16 _ _).mono ?_; rintro e ws ⟨rfl, rfl⟩))
      go_quiet ((first | (go_at_call 65; with_reducible exact Calls.quiet_of_same ((rmost_10 true _).mono (fun _ _ h => ⟨h.1, h.2.symm⟩))) | (go_at_call 64; with_reducible exact Calls.quiet_of_same ((rin_any a 0 (rmo 10 true) _).mono (fun _ _ h => ⟨h.1, h.2.symm⟩)))))
      go_wp2_with fail
      go_ret
      exact ⟨ret_b (Eq.trans (by first | (simp [rng, mosts, rmo]; done) | (simp [rng, mosts, rmo]; omega) | (rw [Bool.eq_iff_iff]; simp [rng, mosts, rmo] <;> omega)) HV.out.symm), drewN_below (by go_grown) _⟩
  · have hb2 : (b == 0) = false := by simpa using hb
    have hb3 : (b != 0) = true := by simpa using hb
    go_enter Tryd.func51, Tryd.ntmps51
    go_wp2_with (first | (go_at_call 22; refine (rOperands_23 _).mono ?_; rintro e ws ⟨rfl, rfl⟩) | (go_at_call 64; refine (rin_any _ _ _ _).mono ?_; rintro e ws ⟨rfl, rfl⟩) | (go_at_call 65; refine (rmost_10 _ _).mono ?_; rintro e ws ⟨rfl, rfl⟩) | (go_at_call 65; refine (rmost_7 _ _).mono ?_; rintro e ws ⟨rfl, rfl⟩) | (go_at_call 65; refine (rmost_16 _ _).mono ?_; rintro e ws ⟨rfl, rfl⟩))
    go_ret
    exact ⟨ret_b (Eq.trans (by first | (simp [rng, mosts, rmo, hb]; done) | (simp [rng, mosts, rmo, hb]; omega) | (rw [Bool.eq_iff_iff]; simp [rng, mosts, rmo, hb] <;> omega)) HV.out.symm), by go_grown⟩
set_option maxHeartbeats 4000000 in
theorem rValid_24 (a b : Int) (p : Bool) (w : World) :
    Calls Tryd.prog 51 #[.agg #[.int .i64 24, .int .i64 a, .int .i64 b], .bool p] w fun e w' => e = .returned (.bool (vld 24 a b p)) ∧ Below w.heap.size w w' := by
  have HV := hide (vld_nat 24 (by omega) a b p)
  have s1 : (sp 24).a = 4 := rfl
  have s2 : (sp 24).b = 0 := rfl
  rw [s1, s2] at HV
  clear s1 s2
  by_cases hb : b = 0
  · subst hb
    cases p
    case false =>
      go_enter Tryd.func51, Tryd.ntmps51
      go_wp2_with (first | (go_at_call 22; refine (rOperands_24 _).mono ?_; rintro e ws ⟨rfl, rfl⟩) | (go_at_call 64; refine (rin_any _ _ _ _).mono ?_; rintro e ws ⟨rfl, rfl⟩) | (go_at_call 65; refine (rmost_10 _ _).mono ?_; rintro e ws ⟨rfl, rfl⟩) | (go_at_call 65; refine (rmost_7 _ _).mono ?_; rintro e ws ⟨rfl, rfl⟩) | (go_at_call 65; refine (rmost_16 _ _).mono ?_; rintro e ws ⟨rfl, rfl⟩))
      go_quiet ((first | (go_at_call 65; with_reducible exact Calls.quiet_of_same ((rmost_10 false _).mono (fun _ _ h => ⟨h.1, h.2.symm⟩))) | (go_at_call 64; with_reducible exact Calls.quiet_of_same ((rin_any a 0 (rmo 10 false) _).mono (fun _ _ h => ⟨h.1, h.2.symm⟩)))))
      go_wp2_with fail
      go_ret
      exact ⟨ret_b (Eq.trans (by first | (simp [rng, mosts, rmo]; done) | (simp [rng, mosts, rmo]; omega) | (rw [Bool.eq_iff_iff]; simp [rng, mosts, rmo] <;> omega)) HV.out.symm), drewN_below (by go_grown) _⟩
    case true =>
      go_enter Tryd.func51, Tryd.ntmps51
      go_wp2_with (first | (go_at_call 22; refine (rOperands_24 _).mono ?_; rintro e ws ⟨rfl, rfl⟩) | (go_at_call 64; refine (rin_any _ _ _ _).mono ?_; rintro e ws ⟨rfl, rfl⟩) | (go_at_call 65; refine (rmost_10 _ _).mono ?_; rintro e ws ⟨rfl, rfl⟩) | (go_at_call 65; refine (rmost_7 _ _).mono ?_; rintro e ws ⟨rfl, rfl⟩) | (go_at_call 65; refine (rmost_16 _ _).mono ?_; rintro e ws ⟨rfl, rfl⟩))
      go_quiet ((first | (go_at_call 65; with_reducible exact Calls.quiet_of_same ((rmost_10 true _).mono (fun _ _ h => ⟨h.1, h.2.symm⟩))) | (go_at_call 64; with_reducible exact Calls.quiet_of_same ((rin_any a 0 (rmo 10 true) _).mono (fun _ _ h => ⟨h.1, h.2.symm⟩)))))
      go_wp2_with fail
      go_ret
      exact ⟨ret_b (Eq.trans (by first | (simp [rng, mosts, rmo]; done) | (simp [rng, mosts, rmo]; omega) | (rw [Bool.eq_iff_iff]; simp [rng, mosts, rmo] <;> omega)) HV.out.symm), drewN_below (by go_grown) _⟩
  · have hb2 : (b == 0) = false := by simpa using hb
    have hb3 : (b != 0) = true := by simpa using hb
    go_enter Tryd.func51, Tryd.ntmps51
    go_wp2_with (first | (go_at_call 22; refine (rOperands_24 _).mono ?_; rintro e ws ⟨rfl, rfl⟩) | (go_at_call 64; refine (rin_any _ _ _ _).mono ?_; rintro e ws ⟨rfl, rfl⟩) | (go_at_call 65; refine (rmost_10 _ _).mono ?_; rintro e ws ⟨rfl, rfl⟩) | (go_at_call 65; refine (rmost_7 _ _).mono ?_; rintro e ws ⟨rfl, rfl⟩) | (go_at_call 65; refine (rmost_16 _ _).mono ?_; rintro e ws ⟨rfl, rfl⟩))
    go_ret
    exact ⟨ret_b (Eq.trans (by first | (simp [rng, mosts, rmo, hb]; done) | (simp [rng, mosts, rmo, hb]; omega) | (rw [Bool.eq_iff_iff]; simp [rng, mosts, rmo, hb] <;> omega)) HV.out.symm), by go_grown⟩
set_option maxHeartbeats 4000000 in
theorem rValid_25 (a b : Int) (p : Bool) (w : World) :
    Calls Tryd.prog 51 #[.agg #[.int .i64 25, .int .i64 a, .int .i64 b], .bool p] w fun e w' => e = .returned (.bool (vld 25 a b p)) ∧ Below w.heap.size w w' := by
  have HV := hide (vld_nat 25 (by omega) a b p)
  have s1 : (sp 25).a = 8 := rfl
  have s2 : (sp 25).b = 0 := rfl
  rw [s1, s2] at HV
  clear s1 s2
  by_cases hb : b = 0
  · subst hb
    cases p
    case false =>
      go_enter Tryd.func51, Tryd.ntmps51
      go_wp2_with (first | (go_at_call 22; refine (rOperands_25 _).mono ?_; rintro e ws ⟨rfl, rfl⟩) | (go_at_call 64; refine (rin_any _ _ _ _).mono ?_; rintro e ws ⟨rfl, rfl⟩) | (go_at_call 65; refine (rmost_10 _ _).mono ?_; rintro e ws ⟨rfl, rfl⟩) | (go_at_call 65; refine (rmost_7 _ _).mono ?_; rintro e ws ⟨rfl, rfl⟩) | (go_at_call 65; refine (rmost_16 _ _).mono ?_; rintro e ws ⟨rfl, rfl⟩))
      go_quiet ((first | (go_at_call 65; with_reducible exact Calls.quiet_of_same ((rmost_16 false _).mono (fun _ _ h => ⟨h.1, h.2.symm⟩))) | (go_at_call 64; with_reducible exact Calls.quiet_of_same ((rin_any a 0 (rmo 16 false) _).mono (fun _ _ h => ⟨h.1, h.2.symm⟩)))))
      go_wp2_with fail
      go_ret
      exact ⟨ret_b (Eq.trans (by first | (simp [rng, mosts, rmo]; done) | (simp [rng, mosts, rmo]; omega) | (rw [Bool.eq_iff_iff]; simp [rng, mosts, rmo] <;> omega)) HV.out.symm), drewN_below (by go_grown) _⟩
    case true =>
      go_enter Tryd.func51, Tryd.ntmps51
      go_wp2_with (first | (go_at_call 22; refine (rOperands_25 _).mono ?_; rintro e ws ⟨rfl, rfl⟩) | (go_at_call 64; refine (rin_any _ _ _ _).mono ?_; rintro e ws ⟨rfl, rfl⟩) | (go_at_call 65; refine (rmost_10 _ _).mono ?_; rintro e ws ⟨rfl, rfl⟩) | (go_at_call 65; refine (rmost_7 _ _).mono ?_; rintro e ws ⟨rfl, rfl⟩) | (go_at_call 65; refine (rmost_16 _ _).mono ?_; rintro e ws ⟨rfl, rfl⟩))
      go_quiet ((first | (go_at_call 65; with_reducible exact Calls.quiet_of_same ((rmost_16 true _).mono (fun _ _ h => ⟨h.1, h.2.symm⟩))) | (go_at_call 64; with_reducible exact Calls.quiet_of_same ((rin_any a 0 (rmo 16 true) _).mono (fun _ _ h => ⟨h.1, h.2.symm⟩)))))
      go_wp2_with fail
      go_ret
      exact ⟨ret_b (Eq.trans (by first | (simp [rng, mosts, rmo]; done) | (simp [rng, mosts, rmo]; omega) | (rw [Bool.eq_iff_iff]; simp [rng, mosts, rmo] <;> omega)) HV.out.symm), drewN_below (by go_grown) _⟩
  · have hb2 : (b == 0) = false := by simpa using hb
    have hb3 : (b != 0) = true := by simpa using hb
    go_enter Tryd.func51, Tryd.ntmps51
    go_wp2_with (first | (go_at_call 22; refine (rOperands_25 _).mono ?_; rintro e ws ⟨rfl, rfl⟩) | (go_at_call 64; refine (rin_any _ _ _ _).mono ?_; rintro e ws ⟨rfl, rfl⟩) | (go_at_call 65; refine (rmost_10 _ _).mono ?_; rintro e ws ⟨rfl, rfl⟩) | (go_at_call 65; refine (rmost_7 _ _).mono ?_; rintro e ws ⟨rfl, rfl⟩) | (go_at_call 65; refine (rmost_16 _ _).mono ?_; rintro e ws ⟨rfl, rfl⟩))
    go_ret
    exact ⟨ret_b (Eq.trans (by first | (simp [rng, mosts, rmo, hb]; done) | (simp [rng, mosts, rmo, hb]; omega) | (rw [Bool.eq_iff_iff]; simp [rng, mosts, rmo, hb] <;> omega)) HV.out.symm), by go_grown⟩
set_option maxHeartbeats 4000000 in
theorem rValid_26 (a b : Int) (p : Bool) (w : World) :
    Calls Tryd.prog 51 #[.agg #[.int .i64 26, .int .i64 a, .int .i64 b], .bool p] w fun e w' => e = .returned (.bool (vld 26 a b p)) ∧ Below w.heap.size w w' := by
  have HV := hide (vld_nat 26 (by omega) a b p)
  have s1 : (sp 26).a = 9 := rfl
  have s2 : (sp 26).b = 0 := rfl
  rw [s1, s2] at HV
  clear s1 s2
  by_cases hb : b = 0
  · subst hb
    cases p
    case false =>
      go_enter Tryd.func51, Tryd.ntmps51
      go_wp2_with (first | (go_at_call 22; refine (rOperands_26 _).mono ?_; rintro e ws ⟨rfl, rfl⟩) | (go_at_call 64; refine (rin_any _ _ _ _).mono ?_; rintro e ws ⟨rfl, rfl⟩) | (go_at_call 65; refine (rmost_10 _ _).mono ?_; rintro e ws ⟨rfl, rfl⟩) | (go_at_call 65; refine (rmost_7 _ _).mono ?_; rintro e ws ⟨rfl, rfl⟩) | (go_at_call 65; refine (rmost_16 _ _).mono ?_; rintro e ws ⟨rfl, rfl⟩))
      go_quiet ((first | (go_at_call 65; with_reducible exact Calls.quiet_of_same ((rmost_16 false _).mono (fun _ _ h => ⟨h.1, h.2.symm⟩))) | (go_at_call 64; with_reducible exact Calls.quiet_of_same ((rin_any a 0 (rmo 16 false) _).mono (fun _ _ h => ⟨h.1, h.2.symm⟩)))))
      go_wp2_with fail
      go_ret
      exact ⟨ret_b (Eq.trans (by first | (simp [rng, mosts, rmo]; done) | (simp [rng, mosts, rmo]; omega) | (rw [Bool.eq_iff_iff]; simp [rng, mosts, rmo] <;> omega)) HV.out.symm), drewN_below (by go_grown) _⟩
    case true =>
      go_enter Tryd.func51, Tryd.ntmps51
      go_wp2_with (first | (go_at_call 22; refine (rOperands_26 _).mono ?_; rintro e ws ⟨rfl, rfl⟩) | (go_at_call 64; refine (rin_any _ _ _ _).mono ?_; rintro e ws ⟨rfl, rfl⟩) | (go_at_call 65; refine (rmost_10 _ _).mono ?_; rintro e ws ⟨rfl, rfl⟩) | (go_at_call 65; refine (rmost_7 _ _).mono ?_; rintro e ws ⟨rfl, rfl⟩) | (go_at_call 65; refine (rmost_16 _ _).mono ?_; rintro e ws ⟨rfl, rfl⟩))
      go_quiet ((first | (go_at_call 65; with_reducible exact Calls.quiet_of_same ((rmost_16 true _).mono (fun _ _ h => ⟨h.1, h.2.symm⟩))) | (go_at_call 64; with_reducible exact Calls.quiet_of_same ((rin_any a 0 (rmo 16 true) _).mono (fun _ _ h => ⟨h.1, h.2.symm⟩)))))
      go_wp2_with fail
      go_ret
      exact ⟨ret_b (Eq.trans (by first | (simp [rng, mosts, rmo]; done) | (simp [rng, mosts, rmo]; omega) | (rw [Bool.eq_iff_iff]; simp [rng, mosts, rmo] <;> omega)) HV.out.symm), drewN_below (by go_grown) _⟩
  · have hb2 : (b == 0) = false := by simpa using hb
    have hb3 : (b != 0) = true := by simpa using hb
    go_enter Tryd.func51, Tryd.ntmps51
    go_wp2_with (first | (go_at_call 22; refine (rOperands_26 _).mono ?_; rintro e ws ⟨rfl, rfl⟩) | (go_at_call 64; refine (rin_any _ _ _ _).mono ?_; rintro e ws ⟨rfl, rfl⟩) | (go_at_call 65; refine (rmost_10 _ _).mono ?_; rintro e ws ⟨rfl, rfl⟩) | (go_at_call 65; refine (rmost_7 _ _).mono ?_; rintro e ws ⟨rfl, rfl⟩) | (go_at_call 65; refine (rmost_16 _ _).mono ?_; rintro e ws ⟨rfl, rfl⟩))
    go_ret
    exact ⟨ret_b (Eq.trans (by first | (simp [rng, mosts, rmo, hb]; done) | (simp [rng, mosts, rmo, hb]; omega) | (rw [Bool.eq_iff_iff]; simp [rng, mosts, rmo, hb] <;> omega)) HV.out.symm), by go_grown⟩
set_option maxHeartbeats 4000000 in
theorem rValid_27 (a b : Int) (p : Bool) (w : World) :
    Calls Tryd.prog 51 #[.agg #[.int .i64 27, .int .i64 a, .int .i64 b], .bool p] w fun e w' => e = .returned (.bool (vld 27 a b p)) ∧ Below w.heap.size w w' := by
  have HV := hide (vld_nat 27 (by omega) a b p)
  have s1 : (sp 27).a = 10 := rfl
  have s2 : (sp 27).b = 0 := rfl
  rw [s1, s2] at HV
  clear s1 s2
  by_cases hb : b = 0
  · subst hb
    go_enter Tryd.func51, Tryd.ntmps51
    go_wp2_with (first | (go_at_call 22; refine (rOperands_27 _).mono ?_; rintro e ws ⟨rfl, rfl⟩) | (go_at_call 64; refine (rin_any _ _ _ _).mono ?_; rintro e ws ⟨rfl, rfl⟩) | (go_at_call 65; refine (rmost_10 _ _).mono ?_; rintro e ws ⟨rfl, rfl⟩) | (go_at_call 65; refine (rmost_7 _ _).mono ?_; rintro e ws ⟨rfl, rfl⟩) | (go_at_call 65; refine (rmost_16 _ _).mono ?_; rintro e ws ⟨rfl, rfl⟩))
    go_ret
    exact ⟨ret_b (Eq.trans (by first | (simp [rng, mosts, rmo]; done) | (simp [rng, mosts, rmo]; omega) | (rw [Bool.eq_iff_iff]; simp [rng, mosts, rmo] <;> omega)) HV.out.symm), by go_grown⟩
  · have hb2 : (b == 0) = false := by simpa using hb
    have hb3 : (b != 0) = true := by simpa using hb
    go_enter Tryd.func51, Tryd.ntmps51
    go_wp2_with (first | (go_at_call 22; refine (rOperands_27 _).mono ?_; rintro e ws ⟨rfl, rfl⟩) | (go_at_call 64; refine (rin_any _ _ _ _).mono ?_; rintro e ws ⟨rfl, rfl⟩) | (go_at_call 65; refine (rmost_10 _ _).mono ?_; rintro e ws ⟨rfl, rfl⟩) | (go_at_call 65; refine (rmost_7 _ _).mono ?_; rintro e ws ⟨rfl, rfl⟩) | (go_at_call 65; refine (rmost_16 _ _).mono ?_; rintro e ws ⟨rfl, rfl⟩))
    go_ret
    exact ⟨ret_b (Eq.trans (by first | (simp [rng, mosts, rmo, hb]; done) | (simp [rng, mosts, rmo, hb]; omega) | (rw [Bool.eq_iff_iff]; simp [rng, mosts, rmo, hb] <;> omega)) HV.out.symm), by go_grown⟩
set_option maxHeartbeats 4000000 in
theorem rValid_28 (a b : Int) (p : Bool) (w : World) :
    Calls Tryd.prog 51 #[.agg #[.int .i64 28, .int .i64 a, .int .i64 b], .bool p] w fun e w' => e = .returned (.bool (vld 28 a b p)) ∧ Below w.heap.size w w' := by
  have HV := hide (vld_nat 28 (by omega) a b p)
  have s1 : (sp 28).a = 11 := rfl
  have s2 : (sp 28).b = 0 := rfl
  rw [s1, s2] at HV
  clear s1 s2
  by_cases hb : b = 0
  · subst hb
    go_enter Tryd.func51, Tryd.ntmps51
    go_wp2_with (first | (go_at_call 22; refine (rOperands_28 _).mono ?_; rintro e ws ⟨rfl, rfl⟩) | (go_at_call 64; refine (rin_any _ _ _ _).mono ?_; rintro e ws ⟨rfl, rfl⟩) | (go_at_call 65; refine (rmost_10 _ _).mono ?_; rintro e ws ⟨rfl, rfl⟩) | (go_at_call 65; refine (rmost_7 _ _).mono ?_; rintro e ws ⟨rfl, rfl⟩) | (go_at_call 65; refine (rmost_16 _ _).mono ?_; rintro e ws ⟨rfl, rfl⟩))
    go_ret
    exact ⟨ret_b (Eq.trans (by first | (simp [rng, mosts, rmo]; done) | (simp [rng, mosts, rmo]; omega) | (rw [Bool.eq_iff_iff]; simp [rng, mosts, rmo] <;> omega)) HV.out.symm), by go_grown⟩
  · have hb2 : (b == 0) = false := by simpa using hb
    have hb3 : (b != 0) = true := by simpa using hb
    go_enter Tryd.func51, Tryd.ntmps51
    go_wp2_with (first | (go_at_call 22; refine (rOperands_28 _).mono ?_; rintro e ws ⟨rfl, rfl⟩) | (go_at_call 64; refine (rin_any _ _ _ _).mono ?_; rintro e ws ⟨rfl, rfl⟩) | (go_at_call 65; refine (rmost_10 _ _).mono ?_; rintro e ws ⟨rfl, rfl⟩) | (go_at_call 65; refine (rmost_7 _ _).mono ?_; rintro e ws ⟨rfl, rfl⟩) | (go_at_call 65; refine (rmost_16 _ _).mono ?_; rintro e ws ⟨rfl, rfl⟩))
    go_ret
    exact ⟨ret_b (Eq.trans (by first | (simp [rng, mosts, rmo, hb]; done) | (simp [rng, mosts, rmo, hb]; omega) | (rw [Bool.eq_iff_iff]; simp [rng, mosts, rmo, hb] <;> omega)) HV.out.symm), by go_grown⟩
set_option maxHeartbeats 4000000 in
theorem rValid_29 (a b : Int) (p : Bool) (w : World) :
    Calls Tryd.prog 51 #[.agg #[.int .i64 29, .int .i64 a, .int .i64 b], .bool p] w fun e w' => e = .returned (.bool (vld 29 a b p)) ∧ Below w.heap.size w w' := by
  have HV := hide (vld_nat 29 (by omega) a b p)
  have s1 : (sp 29).a = 0 := rfl
  have s2 : (sp 29).b = 0 := rfl
  rw [s1, s2] at HV
  clear s1 s2
  by_cases hb : b = 0
  · subst hb
    by_cases ha : a = 0
    · subst ha
      go_enter Tryd.func51, Tryd.ntmps51
      go_wp2_with (first | (go_at_call 22; refine (rOperands_29 _).mono ?_; rintro e ws ⟨rfl, rfl⟩) | (go_at_call 64; refine (rin_any _ _ _ _).mono ?_; rintro e ws ⟨rfl, rfl⟩) | (go_at_call 65; refine (rmost_10 _ _).mono ?_; rintro e ws ⟨rfl, rfl⟩) | (go_at_call 65; refine (rmost_7 _ _).mono ?_; rintro e ws ⟨rfl, rfl⟩) | (go_at_call 65; refine (rmost_16 _ _).mono ?_; rintro e ws ⟨rfl, rfl⟩))
      go_ret
      exact ⟨ret_b (Eq.trans (by first | (simp [rng, mosts, rmo]; done) | (simp [rng, mosts, rmo]; omega) | (rw [Bool.eq_iff_iff]; simp [rng, mosts, rmo] <;> omega)) HV.out.symm), by go_grown⟩
    · have ha2 : (a == 0) = false := by simpa using ha
      have ha3 : (a != 0) = true := by simpa using ha
      go_enter Tryd.func51, Tryd.ntmps51
      go_wp2_with (first | (go_at_call 22; refine (rOperands_29 _).mono ?_; rintro e ws ⟨rfl, rfl⟩) | (go_at_call 64; refine (rin_any _ _ _ _).mono ?_; rintro e ws ⟨rfl, rfl⟩) | (go_at_call 65; refine (rmost_10 _ _).mono ?_; rintro e ws ⟨rfl, rfl⟩) | (go_at_call 65; refine (rmost_7 _ _).mono ?_; rintro e ws ⟨rfl, rfl⟩) | (go_at_call 65; refine (rmost_16 _ _).mono ?_; rintro e ws ⟨rfl, rfl⟩))
      go_ret
      exact ⟨ret_b (Eq.trans (by first | (simp [rng, mosts, rmo, ha]; done) | (simp [rng, mosts, rmo, ha]; omega) | (rw [Bool.eq_iff_iff]; simp [rng, mosts, rmo, ha] <;> omega)) HV.out.symm), by go_grown⟩
  · have hb2 : (b == 0) = false := by simpa using hb
    have hb3 : (b != 0) = true := by simpa using hb
    go_enter Tryd.func51, Tryd.ntmps51
    go_wp2_with (first | (go_at_call 22; refine (rOperands_29 _).mono ?_; rintro e ws ⟨rfl, rfl⟩) | (go_at_call 64; refine (rin_any _ _ _ _).mono ?_; rintro e ws ⟨rfl, rfl⟩) | (go_at_call 65; refine (rmost_10 _ _).mono ?_; rintro e ws ⟨rfl, rfl⟩) | (go_at_call 65; refine (rmost_7 _ _).mono ?_; rintro e ws ⟨rfl, rfl⟩) | (go_at_call 65; refine (rmost_16 _ _).mono ?_; rintro e ws ⟨rfl, rfl⟩))
    go_ret
    exact ⟨ret_b (Eq.trans (by first | (simp [rng, mosts, rmo, hb]; done) | (simp [rng, mosts, rmo, hb]; omega) | (rw [Bool.eq_iff_iff]; simp [rng, mosts, rmo, hb] <;> omega)) HV.out.symm), by go_grown⟩
set_option maxHeartbeats 4000000 in
theorem rValid_31 (a b : Int) (p : Bool) (w : World) :
    Calls Tryd.prog 51 #[.agg #[.int .i64 31, .int .i64 a, .int .i64 b], .bool p] w fun e w' => e = .returned (.bool (vld 31 a b p)) ∧ Below w.heap.size w w' := by
  have HV := hide (vld_nat 31 (by omega) a b p)
  have s1 : (sp 31).a = 13 := rfl
  have s2 : (sp 31).b = 0 := rfl
  rw [s1, s2] at HV
  clear s1 s2
  by_cases hb : b = 0
  · subst hb
    go_enter Tryd.func51, Tryd.ntmps51
    go_wp2_with (first | (go_at_call 22; refine (rOperands_31 _).mono ?_; rintro e ws ⟨rfl, rfl⟩) | (go_at_call 64; refine (rin_any _ _ _ _).mono ?_; rintro e ws ⟨rfl, rfl⟩) | (go_at_call 65; refine (rmost_10 _ _).mono ?_; rintro e ws ⟨rfl, rfl⟩) | (go_at_call 65; refine (rmost_7 _ _).mono ?_; rintro e ws ⟨rfl, rfl⟩) | (go_at_call 65; refine (rmost_16 _ _).mono ?_; rintro e ws ⟨rfl, rfl⟩))
    go_ret
    exact ⟨ret_b (Eq.trans (by first | (simp [rng, mosts, rmo]; done) | (simp [rng, mosts, rmo]; omega) | (rw [Bool.eq_iff_iff]; simp [rng, mosts, rmo] <;> omega)) HV.out.symm), by go_grown⟩
  · have hb2 : (b == 0) = false := by simpa using hb
    have hb3 : (b != 0) = true := by simpa using hb
    go_enter Tryd.func51, Tryd.ntmps51
    go_wp2_with (first | (go_at_call 22; refine (rOperands_31 _).mono ?_; rintro e ws ⟨rfl, rfl⟩) | (go_at_call 64; refine (rin_any _ _ _ _).mono ?_; rintro e ws ⟨rfl, rfl⟩) | (go_at_call 65; refine (rmost_10 _ _).mono ?_; rintro e ws ⟨rfl, rfl⟩) | (go_at_call 65; refine (rmost_7 _ _).mono ?_; rintro e ws ⟨rfl, rfl⟩) | (go_at_call 65; refine (rmost_16 _ _).mono ?_; rintro e ws ⟨rfl, rfl⟩))
    go_ret
    exact ⟨ret_b (Eq.trans (by first | (simp [rng, mosts, rmo, hb]; done) | (simp [rng, mosts, rmo, hb]; omega) | (rw [Bool.eq_iff_iff]; simp [rng, mosts, rmo, hb] <;> omega)) HV.out.symm), by go_grown⟩
set_option maxHeartbeats 4000000 in
theorem rValid_32 (a b : Int) (p : Bool) (w : World) :
    Calls Tryd.prog 51 #[.agg #[.int .i64 32, .int .i64 a, .int .i64 b], .bool p] w fun e w' => e = .returned (.bool (vld 32 a b p)) ∧ Below w.heap.size w w' := by
  have HV := hide (vld_nat 32 (by omega) a b p)
  have s1 : (sp 32).a = 14 := rfl
  have s2 : (sp 32).b = 0 := rfl
  rw [s1, s2] at HV
  clear s1 s2
  by_cases hb : b = 0
  · subst hb
    go_enter Tryd.func51, Tryd.ntmps51
    go_wp2_with (first | (go_at_call 22; refine (rOperands_32 _).mono ?_; rintro e ws ⟨rfl, rfl⟩) | (go_at_call 64; refine (rin_any _ _ _ _).mono ?_; rintro e ws ⟨rfl, rfl⟩) | (go_at_call 65; refine (rmost_10 _ _).mono ?_; rintro e ws ⟨rfl, rfl⟩) | (go_at_call 65; refine (rmost_7 _ _).mono ?_; rintro e ws ⟨rfl, rfl⟩) | (go_at_call 65; refine (rmost_16 _ _).mono ?_; rintro e ws ⟨rfl, rfl⟩))
    go_ret
    exact ⟨ret_b (Eq.trans (by first | (simp [rng, mosts, rmo]; done) | (simp [rng, mosts, rmo]; omega) | (rw [Bool.eq_iff_iff]; simp [rng, mosts, rmo] <;> omega)) HV.out.symm), by go_grown⟩
  · have hb2 : (b == 0) = false := by simpa using hb
    have hb3 : (b != 0) = true := by simpa using hb
    go_enter Tryd.func51, Tryd.ntmps51
    go_wp2_with (first | (go_at_call 22; refine (rOperands_32 _).mono ?_; rintro e ws ⟨rfl, rfl⟩) | (go_at_call 64; refine (rin_any _ _ _ _).mono ?_; rintro e ws ⟨rfl, rfl⟩) | (go_at_call 65; refine (rmost_10 _ _).mono ?_; rintro e ws ⟨rfl, rfl⟩) | (go_at_call 65; refine (rmost_7 _ _).mono ?_; rintro e ws ⟨rfl, rfl⟩) | (go_at_call 65; refine (rmost_16 _ _).mono ?_; rintro e ws ⟨rfl, rfl⟩))
    go_ret
    exact ⟨ret_b (Eq.trans (by first | (simp [rng, mosts, rmo, hb]; done) | (simp [rng, mosts, rmo, hb]; omega) | (rw [Bool.eq_iff_iff]; simp [rng, mosts, rmo, hb] <;> omega)) HV.out.symm), by go_grown⟩
set_option maxHeartbeats 4000000 in
theorem rValid_33 (a b : Int) (p : Bool) (w : World) :
    Calls Tryd.prog 51 #[.agg #[.int .i64 33, .int .i64 a, .int .i64 b], .bool p] w fun e w' => e = .returned (.bool (vld 33 a b p)) ∧ Below w.heap.size w w' := by
  have HV := hide (vld_nat 33 (by omega) a b p)
  have s1 : (sp 33).a = 0 := rfl
  have s2 : (sp 33).b = 0 := rfl
  rw [s1, s2] at HV
  clear s1 s2
  by_cases hb : b = 0
  · subst hb
    by_cases ha : a = 0
    · subst ha
      go_enter Tryd.func51, Tryd.ntmps51
      go_wp2_with (first | (go_at_call 22; refine (rOperands_33 _).mono ?_; rintro e ws ⟨rfl, rfl⟩) | (go_at_call 64; refine (rin_any _ _ _ _).mono ?_; rintro e ws ⟨rfl, rfl⟩) | (go_at_call 65; refine (rmost_10 _ _).mono ?_; rintro e ws ⟨rfl, rfl⟩) | (go_at_call 65; refine (rmost_7 _ _).mono ?_; rintro e ws ⟨rfl, rfl⟩) | (go_at_call 65; refine (rmost_16 _ _).mono ?_; rintro e ws ⟨rfl, rfl⟩))
      go_ret
      exact ⟨ret_b (Eq.trans (by first | (simp [rng, mosts, rmo]; done) | (simp [rng, mosts, rmo]; omega) | (rw [Bool.eq_iff_iff]; simp [rng, mosts, rmo] <;> omega)) HV.out.symm), by go_grown⟩
    · have ha2 : (a == 0) = false := by simpa using ha
      have ha3 : (a != 0) = true := by simpa using ha
      go_enter Tryd.func51, Tryd.ntmps51
      go_wp2_with (first | (go_at_call 22; refine (rOperands_33 _).mono ?_; rintro e ws ⟨rfl, rfl⟩) | (go_at_call 64; refine (rin_any _ _ _ _).mono ?_; rintro e ws ⟨rfl, rfl⟩) | (go_at_call 65; refine (rmost_10 _ _).mono ?_; rintro e ws ⟨rfl, rfl⟩) | (go_at_call 65; refine (rmost_7 _ _).mono ?_; rintro e ws ⟨rfl, rfl⟩) | (go_at_call 65; refine (rmost_16 _ _).mono ?_; rintro e ws ⟨rfl, rfl⟩))
      go_ret
      exact ⟨ret_b (Eq.trans (by first | (simp [rng, mosts, rmo, ha]; done) | (simp [rng, mosts, rmo, ha]; omega) | (rw [Bool.eq_iff_iff]; simp [rng, mosts, rmo, ha] <;> omega)) HV.out.symm), by go_grown⟩
  · have hb2 : (b == 0) = false := by simpa using hb
    have hb3 : (b != 0) = true := by simpa using hb
    go_enter Tryd.func51, Tryd.ntmps51
    go_wp2_with (first | (go_at_call 22; refine (rOperands_33 _).mono ?_; rintro e ws ⟨rfl, rfl⟩) | (go_at_call 64; refine (rin_any _ _ _ _).mono ?_; rintro e ws ⟨rfl, rfl⟩) | (go_at_call 65; refine (rmost_10 _ _).mono ?_; rintro e ws ⟨rfl, rfl⟩) | (go_at_call 65; refine (rmost_7 _ _).mono ?_; rintro e ws ⟨rfl, rfl⟩) | (go_at_call 65; refine (rmost_16 _ _).mono ?_; rintro e ws ⟨rfl, rfl⟩))
    go_ret
    exact ⟨ret_b (Eq.trans (by first | (simp [rng, mosts, rmo, hb]; done) | (simp [rng, mosts, rmo, hb]; omega) | (rw [Bool.eq_iff_iff]; simp [rng, mosts, rmo, hb] <;> omega)) HV.out.symm), by go_grown⟩
set_option maxHeartbeats 4000000 in
theorem rValid_34 (a b : Int) (p : Bool) (w : World) :
    Calls Tryd.prog 51 #[.agg #[.int .i64 34, .int .i64 a, .int .i64 b], .bool p] w fun e w' => e = .returned (.bool (vld 34 a b p)) ∧ Below w.heap.size w w' := by
  have HV := hide (vld_nat 34 (by omega) a b p)
  have s1 : (sp 34).a = 0 := rfl
  have s2 : (sp 34).b = 0 := rfl
  rw [s1, s2] at HV
  clear s1 s2
  by_cases hb : b = 0
  · subst hb
    by_cases ha : a = 0
    · subst ha
      go_enter Tryd.func51, Tryd.ntmps51
      go_wp2_with (first | (go_at_call 22; refine (rOperands_34 _).mono ?_; rintro e ws ⟨rfl, rfl⟩) | (go_at_call 64; refine (rin_any _ _ _ _).mono ?_; rintro e ws ⟨rfl, rfl⟩) | (go_at_call 65; refine (rmost_10 _ _).mono ?_; rintro e ws ⟨rfl, rfl⟩) | (go_at_call 65; refine (rmost_7 _ _).mono ?_; rintro e ws ⟨rfl, rfl⟩) | (go_at_call 65; refine (rmost_16 _ _).mono ?_; rintro e ws ⟨rfl, rfl⟩))
      go_ret
      exact ⟨ret_b (Eq.trans (by first | (simp [rng, mosts, rmo]; done) | (simp [rng, mosts, rmo]; omega) | (rw [Bool.eq_iff_iff]; simp [rng, mosts, rmo] <;> omega)) HV.out.symm), by go_grown⟩
    · have ha2 : (a == 0) = false := by simpa using ha
      have ha3 : (a != 0) = true := by simpa using ha
      go_enter Tryd.func51, Tryd.ntmps51
      go_wp2_with (first | (go_at_call 22; refine (rOperands_34 _).mono ?_; rintro e ws ⟨rfl, rfl⟩) | (go_at_call 64; refine (rin_any _ _ _ _).mono ?_; rintro e ws ⟨rfl, rfl⟩) | (go_at_call 65; refine (rmost_10 _ _).mono ?_; rintro e ws ⟨rfl, rfl⟩) | (go_at_call 65; refine (rmost_7 _ _).mono ?_; rintro e ws ⟨rfl, rfl⟩) | (go_at_call 65; refine (rmost_16 _ _).mono ?_; rintro e ws ⟨rfl, rfl⟩))
      go_ret
      exact ⟨ret_b (Eq.trans (by first | (simp [rng, mosts, rmo, ha]; done) | (simp [rng, mosts, rmo, ha]; omega) | (rw [Bool.eq_iff_iff]; simp [rng, mosts, rmo, ha] <;> omega)) HV.out.symm), by go_grown⟩
  · have hb2 : (b == 0) = false := by simpa using hb
    have hb3 : (b != 0) = true := by simpa using hb
    go_enter Tryd.func51, Tryd.ntmps51
    go_wp2_with (first | (go_at_call 22; refine (rOperands_34 _).mono ?_; rintro e ws ⟨rfl, rfl⟩) | (go_at_call 64; refine (rin_any _ _ _ _).mono ?_; rintro e ws ⟨rfl, rfl⟩) | (go_at_call 65; refine (rmost_10 _ _).mono ?_; rintro e ws ⟨rfl, rfl⟩) | (go_at_call 65; refine (rmost_7 _ _).mono ?_; rintro e ws ⟨rfl, rfl⟩) | (go_at_call 65; refine (rmost_16 _ _).mono ?_; rintro e ws ⟨rfl, rfl⟩))
    go_ret
    exact ⟨ret_b (Eq.trans (by first | (simp [rng, mosts, rmo, hb]; done) | (simp [rng, mosts, rmo, hb]; omega) | (rw [Bool.eq_iff_iff]; simp [rng, mosts, rmo, hb] <;> omega)) HV.out.symm), by go_grown⟩
set_option maxHeartbeats 4000000 in
theorem rValid_35 (a b : Int) (p : Bool) (w : World) :
    Calls Tryd.prog 51 #[.agg #[.int .i64 35, .int .i64 a, .int .i64 b], .bool p] w fun e w' => e = .returned (.bool (vld 35 a b p)) ∧ Below w.heap.size w w' := by
  have HV := hide (vld_nat 35 (by omega) a b p)
  have s1 : (sp 35).a = 0 := rfl
  have s2 : (sp 35).b = 0 := rfl
  rw [s1, s2] at HV
  clear s1 s2
  by_cases hb : b = 0
  · subst hb
    by_cases ha : a = 0
    · subst ha
      go_enter Tryd.func51, Tryd.ntmps51
      go_wp2_with (first | (go_at_call 22; refine (rOperands_35 _).mono ?_; rintro e ws ⟨rfl, rfl⟩) | (go_at_call 64; refine (rin_any _ _ _ _).mono ?_; rintro e ws ⟨rfl, rfl⟩) | (go_at_call 65; refine (rmost_10 _ _).mono ?_; rintro e ws ⟨rfl, rfl⟩) | (go_at_call 65; refine (rmost_7 _ _).mono ?_; rintro e ws ⟨rfl, rfl⟩) | (go_at_call 65; refine (rmost_16 _ _).mono ?_; rintro e ws ⟨rfl, rfl⟩))
      go_ret
      exact ⟨ret_b (Eq.trans (by first | (simp [rng, mosts, rmo]; done) | (simp [rng, mosts, rmo]; omega) | (rw [Bool.eq_iff_iff]; simp [rng, mosts, rmo] <;> omega)) HV.out.symm), by go_grown⟩
    · have ha2 : (a == 0) = false := by simpa using ha
      have ha3 : (a != 0) = true := by simpa using ha
      go_enter Tryd.func51, Tryd.ntmps51
      go_wp2_with (first | (go_at_call 22; refine (rOperands_35 _).mono ?_; rintro e ws ⟨rfl, rfl⟩) | (go_at_call 64; refine (rin_any _ _ _ _).mono ?_; rintro e ws ⟨rfl, rfl⟩) | (go_at_call 65; refine (rmost_10 _ _).mono ?_; rintro e ws ⟨rfl, rfl⟩) | (go_at_call 65; refine (rmost_7 _ _).mono ?_; rintro e ws ⟨rfl, rfl⟩) | (go_at_call 65; refine (rmost_16 _ _).mono ?_; rintro e ws ⟨rfl, rfl⟩))
      go_ret
      exact ⟨ret_b (Eq.trans (by first | (simp [rng, mosts, rmo, ha]; done) | (simp [rng, mosts, rmo, ha]; omega) | (rw [Bool.eq_iff_iff]; simp [rng, mosts, rmo, ha] <;> omega)) HV.out.symm), by go_grown⟩
  · have hb2 : (b == 0) = false := by simpa using hb
    have hb3 : (b != 0) = true := by simpa using hb
    go_enter Tryd.func51, Tryd.ntmps51
    go_wp2_with (first | (go_at_call 22; refine (rOperands_35 _).mono ?_; rintro e ws ⟨rfl, rfl⟩) | (go_at_call 64; refine (rin_any _ _ _ _).mono ?_; rintro e ws ⟨rfl, rfl⟩) | (go_at_call 65; refine (rmost_10 _ _).mono ?_; rintro e ws ⟨rfl, rfl⟩) | (go_at_call 65; refine (rmost_7 _ _).mono ?_; rintro e ws ⟨rfl, rfl⟩) | (go_at_call 65; refine (rmost_16 _ _).mono ?_; rintro e ws ⟨rfl, rfl⟩))
    go_ret
    exact ⟨ret_b (Eq.trans (by first | (simp [rng, mosts, rmo, hb]; done) | (simp [rng, mosts, rmo, hb]; omega) | (rw [Bool.eq_iff_iff]; simp [rng, mosts, rmo, hb] <;> omega)) HV.out.symm), by go_grown⟩
end Ec
end Go.Proofs.YteeljnlepbnhkaaDoor
