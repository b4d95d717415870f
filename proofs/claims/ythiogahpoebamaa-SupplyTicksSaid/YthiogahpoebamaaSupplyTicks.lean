/-
  The statement SupplyTicks: for every supply and all numbers the law returns true.
  Conditions: none beyond those of the given row.
-/
import Derived.Test.YthiogahpoebamaaRows
import Derived.Test.YthiogahpoebamaaR
import Derived.Test.YthiogahpoebamaaK
import Derived.ProofKit
import Derived.OpenShut
import Derived.ShutString
import Derived.ChangeOld
import Derived.Lib.SmallJoins
set_option linter.unusedVariables false
set_option linter.unusedSimpArgs false
namespace Go.Proofs.Ythiogahpoebamaa.supplyTicks
open Go.ChangeShapes Go.WideShapes Go.ChangeAt Go.RowKit Go.Joins
open Go.ChangeMaps (open_string shut_string)
open Sup Go.Sort

/-- Program and Between as functions of all arguments: the values and the errors. -/
def pB (F S t : Int) : Bool := if vld F S && decide (0 ≤ t) && decide (t ≤ 1000000) then decide (S ≤ t % F) else false
def pE (F S t : Int) : Int := if vld F S && decide (0 ≤ t) && decide (t ≤ 1000000) then 0 else 1
def bV (F S a b : Int) : Int := if vld F S && decide (0 ≤ a) && decide (a ≤ b) && decide (b ≤ 1000000) then ah F S b - ah F S a else 0
def bE (F S a b : Int) : Int := if vld F S && decide (0 ≤ a) && decide (a ≤ b) && decide (b ≤ 1000000) then 0 else 1
theorem pE_ok {F S t : Int} (h : pE F S t = 0) : vld F S = true ∧ 0 ≤ t ∧ t ≤ 1000000 ∧ pB F S t = decide (S ≤ t % F) := by
  unfold pE at h; unfold pB
  split at h
  · rename_i g; rw [if_pos g]; simp only [Bool.and_eq_true, decide_eq_true_eq] at g; exact ⟨g.1.1, g.1.2, g.2, rfl⟩
  · omega
theorem bE_ok {F S a b : Int} (h : bE F S a b = 0) : vld F S = true ∧ 0 ≤ a ∧ a ≤ b ∧ b ≤ 1000000 ∧ bV F S a b = ah F S b - ah F S a := by
  unfold bE at h; unfold bV
  split at h
  · rename_i g; rw [if_pos g]; simp only [Bool.and_eq_true, decide_eq_true_eq] at g; exact ⟨g.1.1.1, g.1.1.2, g.1.2, g.2, rfl⟩
  · omega
theorem bE_mk {F S a b : Int} (h : vld F S = true) (h1 : 0 ≤ a) (h2 : a ≤ b) (h3 : b ≤ 1000000) : bE F S a b = 0 ∧ bV F S a b = ah F S b - ah F S a := by
  unfold bE bV; rw [h]; simp [h1, h2, h3]
theorem pE_01 (F S t : Int) : pE F S t = 0 ∨ pE F S t = 1 := by unfold pE; split <;> simp
theorem bE_01 (F S a b : Int) : bE F S a b = 0 ∨ bE F S a b = 1 := by unfold bE; split <;> simp
theorem between_any (F S a b : Int) (w : World) :
    Calls Try.prog 18 #[.agg #[.int .i64 F, .int .i64 S], .int .i64 a, .int .i64 b] w fun e w' => e = .returned (.tuple #[.int .i64 (bV F S a b), .int .i64 (bE F S a b)]) ∧ Below w.heap.size w w' := by
  by_cases h : (vld F S && decide (0 ≤ a) && decide (a ≤ b) && decide (b ≤ 1000000)) = true
  · have hh := h
    simp only [Bool.and_eq_true, decide_eq_true_eq] at hh
    unfold bV bE; rw [if_pos h, if_pos h]; exact between_ok F S a b w hh.1.1.1 hh.1.1.2 hh.1.2 hh.2
  · unfold bV bE; rw [if_neg h, if_neg h]; exact between_no F S a b w (Bool.eq_false_iff.2 h)
theorem rbetween_any (F S a b : Int) (w : World) :
    Calls Try.prog 22 #[.agg #[.int .i64 F, .int .i64 S], .int .i64 a, .int .i64 b] w fun e w' => e = .returned (.tuple #[.int .i64 (bV F S a b), .int .i64 (bE F S a b)]) ∧ Below w.heap.size w w' := by
  by_cases h : (vld F S && decide (0 ≤ a) && decide (a ≤ b) && decide (b ≤ 1000000)) = true
  · have hh := h
    simp only [Bool.and_eq_true, decide_eq_true_eq] at hh
    unfold bV bE; rw [if_pos h, if_pos h]; exact rbetween_ok F S a b w hh.1.1.1 hh.1.1.2 hh.1.2 hh.2
  · unfold bV bE; rw [if_neg h, if_neg h]; exact rbetween_no F S a b w (by
      have := Bool.eq_false_iff.2 h
      cases hv : vld F S
      · rfl
      · rw [hv] at this; simp at *; omega)
theorem program_any' (F S t : Int) (w : World) :
    Calls Try.prog 20 #[.agg #[.int .i64 F, .int .i64 S], .int .i64 t] w fun e w' => e = .returned (.tuple #[.bool (pB F S t), .int .i64 (pE F S t)]) ∧ Below w.heap.size w w' := by
  by_cases h : (vld F S && decide (0 ≤ t) && decide (t ≤ 1000000)) = true
  · have hh := h
    simp only [Bool.and_eq_true, decide_eq_true_eq] at hh
    unfold pB pE; rw [if_pos h, if_pos h]; exact program_ok F S t w hh.1.1 hh.1.2 hh.2
  · unfold pB pE; rw [if_neg h, if_neg h]; exact program_no F S t w (Bool.eq_false_iff.2 h)
theorem rprogram_any (F S t : Int) (w : World) :
    Calls Try.prog 21 #[.agg #[.int .i64 F, .int .i64 S], .int .i64 t] w fun e w' => e = .returned (.tuple #[.bool (pB F S t), .int .i64 (pE F S t)]) ∧ Below w.heap.size w w' := by
  by_cases h : (vld F S && decide (0 ≤ t) && decide (t ≤ 1000000)) = true
  · have hh := h
    simp only [Bool.and_eq_true, decide_eq_true_eq] at hh
    unfold pB pE; rw [if_pos h, if_pos h]; exact rprogram_ok F S t w hh.1.1 hh.1.2 hh.2
  · unfold pB pE; rw [if_neg h, if_neg h]; exact rprogram_no F S t w (Bool.eq_false_iff.2 h)

theorem walk_y (F S t a b c : Int) (w : World) (k1 : bE F S a c = 0) (k2 : a ≤ b) (k3 : b ≤ c) (k4 : bE F S a b = 0) (k5 : bE F S b c = 0) (k6 : (IntKind.i64.wrap (bV F S a b + bV F S b c) != bV F S a c) = false) (k7 : IntKind.i64.wrap (bV F S a b + bV F S b c) = bV F S a b + bV F S b c) (k8 : (bV F S a b + bV F S b c != bV F S a c) = false) (k9 : 0 ≤ bV F S a b ∧ bV F S a b ≤ 1000000000) (k10 : 0 ≤ bV F S b c ∧ bV F S b c ≤ 1000000000) : 
    Calls Try.prog 6 #[.agg #[.int .i64 F, .int .i64 S], .int .i64 t, .int .i64 a, .int .i64 b, .int .i64 c] w fun e w' => e = .returned (.bool true) ∧ Below w.heap.size w w' := by
  rcases pE_01 F S t with h | h
  · by_cases u1 : t < 1000000
    · obtain ⟨hv, g1, g2, g3⟩ := pE_ok h
      obtain ⟨h1, h2, h3, h4⟩ := vld_t hv
      obtain ⟨m1, m2⟩ := bE_mk (F := F) (S := S) (a := t) (b := t + 1) hv g1 (by omega) (by omega)
      rw [ah_step F S t (by omega) h3 (by omega)] at m2
      by_cases u4 : S ≤ t % F
      · have u5 : pB F S t = true := by rw [g3]; simpa using u4
        have u6 : bV F S t (t + 1) = 1 := by rw [m2, if_pos u4]; omega
        clear m2 g3 u4 hv h1 h2 h3 h4
        go_enter Try.func6, Try.ntmps6
        go_wp2_with (first
          | (go_at_call 20; refine (program_any' _ _ _ _).mono ?_; rintro e w2 ⟨rfl, hb2⟩; have hk2 := box_keep (F := F) (S := S) (B := w.heap.size) ⟨by simp, by simp, Below.refl _ _, by simp⟩ hb2; clear hb2)
          | (go_at_call 21; refine (rprogram_any _ _ _ _).mono ?_; rintro e w2 ⟨rfl, hb2⟩; have hk2 := box_keep (by assumption) hb2; clear hb2)
          | (go_at_call 18; refine (between_any _ _ _ _ _).mono ?_; rintro e w2 ⟨rfl, hb2⟩; have hk2 := box_keep (by assumption) hb2; clear hb2)
          | (go_at_call 22; refine (rbetween_any _ _ _ _ _).mono ?_; rintro e w2 ⟨rfl, hb2⟩; have hk2 := box_keep (by assumption) hb2; clear hb2)
          | (go_at_call 23; refine (valid_any _ _ _).mono ?_; rintro e w2 ⟨rfl, hb2⟩; have hk2 := box_keep (by assumption) hb2; clear hb2)
          | (go_at_call 15; refine (rvalid_any _ _ _).mono ?_; rintro e w2 ⟨rfl, hb2⟩; have hk2 := box_keep (by assumption) hb2; clear hb2)
          | (go_at_call 16; refine (sane_any _).mono ?_; rintro e ws ⟨rfl, hbs⟩; have hks := box_keep (by assumption) hbs; clear hbs))
        have k0 := cell_regrown hk2.1
        have k1 := cell_regrown hk2.2.1
        have q1 : ∀ d os, Calls Try.prog 23 #[.agg #[.int .i64 F, .int .i64 S]] (grow (redrawn w2 d) os) fun e w'' => e = .returned (.bool (vld F S)) ∧ ∃ p : Regrown, w'' = grow (redrawn w2 p.d) p.os := fun d os => Calls.regrown_of (valid_any F S _)
        have q2 : ∀ d os, Calls Try.prog 15 #[.agg #[.int .i64 F, .int .i64 S]] (grow (redrawn w2 d) os) fun e w'' => e = .returned (.bool (vld F S)) ∧ ∃ p : Regrown, w'' = grow (redrawn w2 p.d) p.os := fun d os => Calls.regrown_of (rvalid_any F S _)
        have q0 : (vld F S != vld F S) = false := by simp
        have q3 : (bV F S a c != bV F S a c) = false := by simp
        have q4 : (pB F S t != pB F S t) = false := by simp
        refine wp_region_quiet_below mixed (by kernel_rfl) ?_
        repeat (go_big_quiet_step (first | with_reducible exact q1 _ _ | with_reducible exact q2 _ _))
        refine wpQuiet_nil ?_
        intro _ hw'
        obtain ⟨⟨dq, osq⟩, hw''⟩ := hw'
        subst hw''
        have hk3 := box_keep hk2 (below_regrown w2 dq osq)
        clear k0 k1 q0 q1 q2 q3 q4 hk2
        generalize grow (redrawn w2 dq) osq = w2 at *
        go_wp2_with (first
          | (go_at_call 18; refine (between_any _ _ _ _ _).mono ?_; rintro e w2 ⟨rfl, hb2⟩; have hk2 := box_keep (by assumption) hb2; clear hb2)
          | (go_at_call 22; refine (rbetween_any _ _ _ _ _).mono ?_; rintro e w2 ⟨rfl, hb2⟩; have hk2 := box_keep (by assumption) hb2; clear hb2)
          | (go_at_call 23; refine (valid_any _ _ _).mono ?_; rintro e w2 ⟨rfl, hb2⟩; have hk2 := box_keep (by assumption) hb2; clear hb2)
          | (go_at_call 15; refine (rvalid_any _ _ _).mono ?_; rintro e w2 ⟨rfl, hb2⟩; have hk2 := box_keep (by assumption) hb2; clear hb2)
          | (go_at_call 16; refine (sane_any _).mono ?_; rintro e ws ⟨rfl, hbs⟩; have hks := box_keep (by assumption) hbs; clear hbs))
        go_ret
        obtain ⟨-, -, hB, -⟩ := (by assumption : _ ∧ _ ∧ _ ∧ _)
        exact ⟨rfl, ((Below.refl w.heap.size w).alloc (Nat.le_refl _) _).trans (hB.mono (by omega))⟩
      · have u5 : pB F S t = false := by rw [g3]; simpa using u4
        have u6 : bV F S t (t + 1) = 0 := by rw [m2, if_neg u4]; omega
        clear m2 g3 u4 hv h1 h2 h3 h4
        go_enter Try.func6, Try.ntmps6
        go_wp2_with (first
          | (go_at_call 20; refine (program_any' _ _ _ _).mono ?_; rintro e w2 ⟨rfl, hb2⟩; have hk2 := box_keep (F := F) (S := S) (B := w.heap.size) ⟨by simp, by simp, Below.refl _ _, by simp⟩ hb2; clear hb2)
          | (go_at_call 21; refine (rprogram_any _ _ _ _).mono ?_; rintro e w2 ⟨rfl, hb2⟩; have hk2 := box_keep (by assumption) hb2; clear hb2)
          | (go_at_call 18; refine (between_any _ _ _ _ _).mono ?_; rintro e w2 ⟨rfl, hb2⟩; have hk2 := box_keep (by assumption) hb2; clear hb2)
          | (go_at_call 22; refine (rbetween_any _ _ _ _ _).mono ?_; rintro e w2 ⟨rfl, hb2⟩; have hk2 := box_keep (by assumption) hb2; clear hb2)
          | (go_at_call 23; refine (valid_any _ _ _).mono ?_; rintro e w2 ⟨rfl, hb2⟩; have hk2 := box_keep (by assumption) hb2; clear hb2)
          | (go_at_call 15; refine (rvalid_any _ _ _).mono ?_; rintro e w2 ⟨rfl, hb2⟩; have hk2 := box_keep (by assumption) hb2; clear hb2)
          | (go_at_call 16; refine (sane_any _).mono ?_; rintro e ws ⟨rfl, hbs⟩; have hks := box_keep (by assumption) hbs; clear hbs))
        have k0 := cell_regrown hk2.1
        have k1 := cell_regrown hk2.2.1
        have q1 : ∀ d os, Calls Try.prog 23 #[.agg #[.int .i64 F, .int .i64 S]] (grow (redrawn w2 d) os) fun e w'' => e = .returned (.bool (vld F S)) ∧ ∃ p : Regrown, w'' = grow (redrawn w2 p.d) p.os := fun d os => Calls.regrown_of (valid_any F S _)
        have q2 : ∀ d os, Calls Try.prog 15 #[.agg #[.int .i64 F, .int .i64 S]] (grow (redrawn w2 d) os) fun e w'' => e = .returned (.bool (vld F S)) ∧ ∃ p : Regrown, w'' = grow (redrawn w2 p.d) p.os := fun d os => Calls.regrown_of (rvalid_any F S _)
        have q0 : (vld F S != vld F S) = false := by simp
        have q3 : (bV F S a c != bV F S a c) = false := by simp
        have q4 : (pB F S t != pB F S t) = false := by simp
        refine wp_region_quiet_below mixed (by kernel_rfl) ?_
        repeat (go_big_quiet_step (first | with_reducible exact q1 _ _ | with_reducible exact q2 _ _))
        refine wpQuiet_nil ?_
        intro _ hw'
        obtain ⟨⟨dq, osq⟩, hw''⟩ := hw'
        subst hw''
        have hk3 := box_keep hk2 (below_regrown w2 dq osq)
        clear k0 k1 q0 q1 q2 q3 q4 hk2
        generalize grow (redrawn w2 dq) osq = w2 at *
        go_wp2_with (first
          | (go_at_call 18; refine (between_any _ _ _ _ _).mono ?_; rintro e w2 ⟨rfl, hb2⟩; have hk2 := box_keep (by assumption) hb2; clear hb2)
          | (go_at_call 22; refine (rbetween_any _ _ _ _ _).mono ?_; rintro e w2 ⟨rfl, hb2⟩; have hk2 := box_keep (by assumption) hb2; clear hb2)
          | (go_at_call 23; refine (valid_any _ _ _).mono ?_; rintro e w2 ⟨rfl, hb2⟩; have hk2 := box_keep (by assumption) hb2; clear hb2)
          | (go_at_call 15; refine (rvalid_any _ _ _).mono ?_; rintro e w2 ⟨rfl, hb2⟩; have hk2 := box_keep (by assumption) hb2; clear hb2)
          | (go_at_call 16; refine (sane_any _).mono ?_; rintro e ws ⟨rfl, hbs⟩; have hks := box_keep (by assumption) hbs; clear hbs))
        go_ret
        obtain ⟨-, -, hB, -⟩ := (by assumption : _ ∧ _ ∧ _ ∧ _)
        exact ⟨rfl, ((Below.refl w.heap.size w).alloc (Nat.le_refl _) _).trans (hB.mono (by omega))⟩
    · go_enter Try.func6, Try.ntmps6
      go_wp2_with (first
        | (go_at_call 20; refine (program_any' _ _ _ _).mono ?_; rintro e w2 ⟨rfl, hb2⟩; have hk2 := box_keep (F := F) (S := S) (B := w.heap.size) ⟨by simp, by simp, Below.refl _ _, by simp⟩ hb2; clear hb2)
        | (go_at_call 21; refine (rprogram_any _ _ _ _).mono ?_; rintro e w2 ⟨rfl, hb2⟩; have hk2 := box_keep (by assumption) hb2; clear hb2)
        | (go_at_call 18; refine (between_any _ _ _ _ _).mono ?_; rintro e w2 ⟨rfl, hb2⟩; have hk2 := box_keep (by assumption) hb2; clear hb2)
        | (go_at_call 22; refine (rbetween_any _ _ _ _ _).mono ?_; rintro e w2 ⟨rfl, hb2⟩; have hk2 := box_keep (by assumption) hb2; clear hb2)
        | (go_at_call 23; refine (valid_any _ _ _).mono ?_; rintro e w2 ⟨rfl, hb2⟩; have hk2 := box_keep (by assumption) hb2; clear hb2)
        | (go_at_call 15; refine (rvalid_any _ _ _).mono ?_; rintro e w2 ⟨rfl, hb2⟩; have hk2 := box_keep (by assumption) hb2; clear hb2)
        | (go_at_call 16; refine (sane_any _).mono ?_; rintro e ws ⟨rfl, hbs⟩; have hks := box_keep (by assumption) hbs; clear hbs))
      have k0 := cell_regrown hk2.1
      have k1 := cell_regrown hk2.2.1
      have q1 : ∀ d os, Calls Try.prog 23 #[.agg #[.int .i64 F, .int .i64 S]] (grow (redrawn w2 d) os) fun e w'' => e = .returned (.bool (vld F S)) ∧ ∃ p : Regrown, w'' = grow (redrawn w2 p.d) p.os := fun d os => Calls.regrown_of (valid_any F S _)
      have q2 : ∀ d os, Calls Try.prog 15 #[.agg #[.int .i64 F, .int .i64 S]] (grow (redrawn w2 d) os) fun e w'' => e = .returned (.bool (vld F S)) ∧ ∃ p : Regrown, w'' = grow (redrawn w2 p.d) p.os := fun d os => Calls.regrown_of (rvalid_any F S _)
      have q0 : (vld F S != vld F S) = false := by simp
      have q3 : (bV F S a c != bV F S a c) = false := by simp
      have q4 : (pB F S t != pB F S t) = false := by simp
      refine wp_region_quiet_below mixed (by kernel_rfl) ?_
      repeat (go_big_quiet_step (first | with_reducible exact q1 _ _ | with_reducible exact q2 _ _))
      refine wpQuiet_nil ?_
      intro _ hw'
      obtain ⟨⟨dq, osq⟩, hw''⟩ := hw'
      subst hw''
      have hk3 := box_keep hk2 (below_regrown w2 dq osq)
      clear k0 k1 q0 q1 q2 q3 q4 hk2
      generalize grow (redrawn w2 dq) osq = w2 at *
      go_wp2_with (first
        | (go_at_call 18; refine (between_any _ _ _ _ _).mono ?_; rintro e w2 ⟨rfl, hb2⟩; have hk2 := box_keep (by assumption) hb2; clear hb2)
        | (go_at_call 22; refine (rbetween_any _ _ _ _ _).mono ?_; rintro e w2 ⟨rfl, hb2⟩; have hk2 := box_keep (by assumption) hb2; clear hb2)
        | (go_at_call 23; refine (valid_any _ _ _).mono ?_; rintro e w2 ⟨rfl, hb2⟩; have hk2 := box_keep (by assumption) hb2; clear hb2)
        | (go_at_call 15; refine (rvalid_any _ _ _).mono ?_; rintro e w2 ⟨rfl, hb2⟩; have hk2 := box_keep (by assumption) hb2; clear hb2)
        | (go_at_call 16; refine (sane_any _).mono ?_; rintro e ws ⟨rfl, hbs⟩; have hks := box_keep (by assumption) hbs; clear hbs))
      go_ret
      obtain ⟨-, -, hB, -⟩ := (by assumption : _ ∧ _ ∧ _ ∧ _)
      exact ⟨rfl, ((Below.refl w.heap.size w).alloc (Nat.le_refl _) _).trans (hB.mono (by omega))⟩
  · go_enter Try.func6, Try.ntmps6
    go_wp2_with (first
      | (go_at_call 20; refine (program_any' _ _ _ _).mono ?_; rintro e w2 ⟨rfl, hb2⟩; have hk2 := box_keep (F := F) (S := S) (B := w.heap.size) ⟨by simp, by simp, Below.refl _ _, by simp⟩ hb2; clear hb2)
      | (go_at_call 21; refine (rprogram_any _ _ _ _).mono ?_; rintro e w2 ⟨rfl, hb2⟩; have hk2 := box_keep (by assumption) hb2; clear hb2)
      | (go_at_call 18; refine (between_any _ _ _ _ _).mono ?_; rintro e w2 ⟨rfl, hb2⟩; have hk2 := box_keep (by assumption) hb2; clear hb2)
      | (go_at_call 22; refine (rbetween_any _ _ _ _ _).mono ?_; rintro e w2 ⟨rfl, hb2⟩; have hk2 := box_keep (by assumption) hb2; clear hb2)
      | (go_at_call 23; refine (valid_any _ _ _).mono ?_; rintro e w2 ⟨rfl, hb2⟩; have hk2 := box_keep (by assumption) hb2; clear hb2)
      | (go_at_call 15; refine (rvalid_any _ _ _).mono ?_; rintro e w2 ⟨rfl, hb2⟩; have hk2 := box_keep (by assumption) hb2; clear hb2)
      | (go_at_call 16; refine (sane_any _).mono ?_; rintro e ws ⟨rfl, hbs⟩; have hks := box_keep (by assumption) hbs; clear hbs))
    have k0 := cell_regrown hk2.1
    have k1 := cell_regrown hk2.2.1
    have q1 : ∀ d os, Calls Try.prog 23 #[.agg #[.int .i64 F, .int .i64 S]] (grow (redrawn w2 d) os) fun e w'' => e = .returned (.bool (vld F S)) ∧ ∃ p : Regrown, w'' = grow (redrawn w2 p.d) p.os := fun d os => Calls.regrown_of (valid_any F S _)
    have q2 : ∀ d os, Calls Try.prog 15 #[.agg #[.int .i64 F, .int .i64 S]] (grow (redrawn w2 d) os) fun e w'' => e = .returned (.bool (vld F S)) ∧ ∃ p : Regrown, w'' = grow (redrawn w2 p.d) p.os := fun d os => Calls.regrown_of (rvalid_any F S _)
    have q0 : (vld F S != vld F S) = false := by simp
    have q3 : (bV F S a c != bV F S a c) = false := by simp
    have q4 : (pB F S t != pB F S t) = false := by simp
    refine wp_region_quiet_below mixed (by kernel_rfl) ?_
    repeat (go_big_quiet_step (first | with_reducible exact q1 _ _ | with_reducible exact q2 _ _))
    refine wpQuiet_nil ?_
    intro _ hw'
    obtain ⟨⟨dq, osq⟩, hw''⟩ := hw'
    subst hw''
    have hk3 := box_keep hk2 (below_regrown w2 dq osq)
    clear k0 k1 q0 q1 q2 q3 q4 hk2
    generalize grow (redrawn w2 dq) osq = w2 at *
    go_wp2_with (first
      | (go_at_call 18; refine (between_any _ _ _ _ _).mono ?_; rintro e w2 ⟨rfl, hb2⟩; have hk2 := box_keep (by assumption) hb2; clear hb2)
      | (go_at_call 22; refine (rbetween_any _ _ _ _ _).mono ?_; rintro e w2 ⟨rfl, hb2⟩; have hk2 := box_keep (by assumption) hb2; clear hb2)
      | (go_at_call 23; refine (valid_any _ _ _).mono ?_; rintro e w2 ⟨rfl, hb2⟩; have hk2 := box_keep (by assumption) hb2; clear hb2)
      | (go_at_call 15; refine (rvalid_any _ _ _).mono ?_; rintro e w2 ⟨rfl, hb2⟩; have hk2 := box_keep (by assumption) hb2; clear hb2)
      | (go_at_call 16; refine (sane_any _).mono ?_; rintro e ws ⟨rfl, hbs⟩; have hks := box_keep (by assumption) hbs; clear hbs))
    go_ret
    obtain ⟨-, -, hB, -⟩ := (by assumption : _ ∧ _ ∧ _ ∧ _)
    exact ⟨rfl, ((Below.refl w.heap.size w).alloc (Nat.le_refl _) _).trans (hB.mono (by omega))⟩

theorem walk_n (F S t a b c : Int) (w : World) (k1 : bE F S a c = 0) (k2 : b < a) : 
    Calls Try.prog 6 #[.agg #[.int .i64 F, .int .i64 S], .int .i64 t, .int .i64 a, .int .i64 b, .int .i64 c] w fun e w' => e = .returned (.bool true) ∧ Below w.heap.size w w' := by
  rcases pE_01 F S t with h | h
  · by_cases u1 : t < 1000000
    · obtain ⟨hv, g1, g2, g3⟩ := pE_ok h
      obtain ⟨h1, h2, h3, h4⟩ := vld_t hv
      obtain ⟨m1, m2⟩ := bE_mk (F := F) (S := S) (a := t) (b := t + 1) hv g1 (by omega) (by omega)
      rw [ah_step F S t (by omega) h3 (by omega)] at m2
      by_cases u4 : S ≤ t % F
      · have u5 : pB F S t = true := by rw [g3]; simpa using u4
        have u6 : bV F S t (t + 1) = 1 := by rw [m2, if_pos u4]; omega
        clear m2 g3 u4 hv h1 h2 h3 h4
        go_enter Try.func6, Try.ntmps6
        go_wp2_with (first
          | (go_at_call 20; refine (program_any' _ _ _ _).mono ?_; rintro e w2 ⟨rfl, hb2⟩; have hk2 := box_keep (F := F) (S := S) (B := w.heap.size) ⟨by simp, by simp, Below.refl _ _, by simp⟩ hb2; clear hb2)
          | (go_at_call 21; refine (rprogram_any _ _ _ _).mono ?_; rintro e w2 ⟨rfl, hb2⟩; have hk2 := box_keep (by assumption) hb2; clear hb2)
          | (go_at_call 18; refine (between_any _ _ _ _ _).mono ?_; rintro e w2 ⟨rfl, hb2⟩; have hk2 := box_keep (by assumption) hb2; clear hb2)
          | (go_at_call 22; refine (rbetween_any _ _ _ _ _).mono ?_; rintro e w2 ⟨rfl, hb2⟩; have hk2 := box_keep (by assumption) hb2; clear hb2)
          | (go_at_call 23; refine (valid_any _ _ _).mono ?_; rintro e w2 ⟨rfl, hb2⟩; have hk2 := box_keep (by assumption) hb2; clear hb2)
          | (go_at_call 15; refine (rvalid_any _ _ _).mono ?_; rintro e w2 ⟨rfl, hb2⟩; have hk2 := box_keep (by assumption) hb2; clear hb2)
          | (go_at_call 16; refine (sane_any _).mono ?_; rintro e ws ⟨rfl, hbs⟩; have hks := box_keep (by assumption) hbs; clear hbs))
        have k0 := cell_regrown hk2.1
        have k1 := cell_regrown hk2.2.1
        have q1 : ∀ d os, Calls Try.prog 23 #[.agg #[.int .i64 F, .int .i64 S]] (grow (redrawn w2 d) os) fun e w'' => e = .returned (.bool (vld F S)) ∧ ∃ p : Regrown, w'' = grow (redrawn w2 p.d) p.os := fun d os => Calls.regrown_of (valid_any F S _)
        have q2 : ∀ d os, Calls Try.prog 15 #[.agg #[.int .i64 F, .int .i64 S]] (grow (redrawn w2 d) os) fun e w'' => e = .returned (.bool (vld F S)) ∧ ∃ p : Regrown, w'' = grow (redrawn w2 p.d) p.os := fun d os => Calls.regrown_of (rvalid_any F S _)
        have q0 : (vld F S != vld F S) = false := by simp
        have q3 : (bV F S a c != bV F S a c) = false := by simp
        have q4 : (pB F S t != pB F S t) = false := by simp
        refine wp_region_quiet_below mixed (by kernel_rfl) ?_
        repeat (go_big_quiet_step (first | with_reducible exact q1 _ _ | with_reducible exact q2 _ _))
        refine wpQuiet_nil ?_
        intro _ hw'
        obtain ⟨⟨dq, osq⟩, hw''⟩ := hw'
        subst hw''
        have hk3 := box_keep hk2 (below_regrown w2 dq osq)
        clear k0 k1 q0 q1 q2 q3 q4 hk2
        generalize grow (redrawn w2 dq) osq = w2 at *
        go_wp2_with (first
          | (go_at_call 18; refine (between_any _ _ _ _ _).mono ?_; rintro e w2 ⟨rfl, hb2⟩; have hk2 := box_keep (by assumption) hb2; clear hb2)
          | (go_at_call 22; refine (rbetween_any _ _ _ _ _).mono ?_; rintro e w2 ⟨rfl, hb2⟩; have hk2 := box_keep (by assumption) hb2; clear hb2)
          | (go_at_call 23; refine (valid_any _ _ _).mono ?_; rintro e w2 ⟨rfl, hb2⟩; have hk2 := box_keep (by assumption) hb2; clear hb2)
          | (go_at_call 15; refine (rvalid_any _ _ _).mono ?_; rintro e w2 ⟨rfl, hb2⟩; have hk2 := box_keep (by assumption) hb2; clear hb2)
          | (go_at_call 16; refine (sane_any _).mono ?_; rintro e ws ⟨rfl, hbs⟩; have hks := box_keep (by assumption) hbs; clear hbs))
        go_ret
        obtain ⟨-, -, hB, -⟩ := (by assumption : _ ∧ _ ∧ _ ∧ _)
        exact ⟨rfl, ((Below.refl w.heap.size w).alloc (Nat.le_refl _) _).trans (hB.mono (by omega))⟩
      · have u5 : pB F S t = false := by rw [g3]; simpa using u4
        have u6 : bV F S t (t + 1) = 0 := by rw [m2, if_neg u4]; omega
        clear m2 g3 u4 hv h1 h2 h3 h4
        go_enter Try.func6, Try.ntmps6
        go_wp2_with (first
          | (go_at_call 20; refine (program_any' _ _ _ _).mono ?_; rintro e w2 ⟨rfl, hb2⟩; have hk2 := box_keep (F := F) (S := S) (B := w.heap.size) ⟨by simp, by simp, Below.refl _ _, by simp⟩ hb2; clear hb2)
          | (go_at_call 21; refine (rprogram_any _ _ _ _).mono ?_; rintro e w2 ⟨rfl, hb2⟩; have hk2 := box_keep (by assumption) hb2; clear hb2)
          | (go_at_call 18; refine (between_any _ _ _ _ _).mono ?_; rintro e w2 ⟨rfl, hb2⟩; have hk2 := box_keep (by assumption) hb2; clear hb2)
          | (go_at_call 22; refine (rbetween_any _ _ _ _ _).mono ?_; rintro e w2 ⟨rfl, hb2⟩; have hk2 := box_keep (by assumption) hb2; clear hb2)
          | (go_at_call 23; refine (valid_any _ _ _).mono ?_; rintro e w2 ⟨rfl, hb2⟩; have hk2 := box_keep (by assumption) hb2; clear hb2)
          | (go_at_call 15; refine (rvalid_any _ _ _).mono ?_; rintro e w2 ⟨rfl, hb2⟩; have hk2 := box_keep (by assumption) hb2; clear hb2)
          | (go_at_call 16; refine (sane_any _).mono ?_; rintro e ws ⟨rfl, hbs⟩; have hks := box_keep (by assumption) hbs; clear hbs))
        have k0 := cell_regrown hk2.1
        have k1 := cell_regrown hk2.2.1
        have q1 : ∀ d os, Calls Try.prog 23 #[.agg #[.int .i64 F, .int .i64 S]] (grow (redrawn w2 d) os) fun e w'' => e = .returned (.bool (vld F S)) ∧ ∃ p : Regrown, w'' = grow (redrawn w2 p.d) p.os := fun d os => Calls.regrown_of (valid_any F S _)
        have q2 : ∀ d os, Calls Try.prog 15 #[.agg #[.int .i64 F, .int .i64 S]] (grow (redrawn w2 d) os) fun e w'' => e = .returned (.bool (vld F S)) ∧ ∃ p : Regrown, w'' = grow (redrawn w2 p.d) p.os := fun d os => Calls.regrown_of (rvalid_any F S _)
        have q0 : (vld F S != vld F S) = false := by simp
        have q3 : (bV F S a c != bV F S a c) = false := by simp
        have q4 : (pB F S t != pB F S t) = false := by simp
        refine wp_region_quiet_below mixed (by kernel_rfl) ?_
        repeat (go_big_quiet_step (first | with_reducible exact q1 _ _ | with_reducible exact q2 _ _))
        refine wpQuiet_nil ?_
        intro _ hw'
        obtain ⟨⟨dq, osq⟩, hw''⟩ := hw'
        subst hw''
        have hk3 := box_keep hk2 (below_regrown w2 dq osq)
        clear k0 k1 q0 q1 q2 q3 q4 hk2
        generalize grow (redrawn w2 dq) osq = w2 at *
        go_wp2_with (first
          | (go_at_call 18; refine (between_any _ _ _ _ _).mono ?_; rintro e w2 ⟨rfl, hb2⟩; have hk2 := box_keep (by assumption) hb2; clear hb2)
          | (go_at_call 22; refine (rbetween_any _ _ _ _ _).mono ?_; rintro e w2 ⟨rfl, hb2⟩; have hk2 := box_keep (by assumption) hb2; clear hb2)
          | (go_at_call 23; refine (valid_any _ _ _).mono ?_; rintro e w2 ⟨rfl, hb2⟩; have hk2 := box_keep (by assumption) hb2; clear hb2)
          | (go_at_call 15; refine (rvalid_any _ _ _).mono ?_; rintro e w2 ⟨rfl, hb2⟩; have hk2 := box_keep (by assumption) hb2; clear hb2)
          | (go_at_call 16; refine (sane_any _).mono ?_; rintro e ws ⟨rfl, hbs⟩; have hks := box_keep (by assumption) hbs; clear hbs))
        go_ret
        obtain ⟨-, -, hB, -⟩ := (by assumption : _ ∧ _ ∧ _ ∧ _)
        exact ⟨rfl, ((Below.refl w.heap.size w).alloc (Nat.le_refl _) _).trans (hB.mono (by omega))⟩
    · go_enter Try.func6, Try.ntmps6
      go_wp2_with (first
        | (go_at_call 20; refine (program_any' _ _ _ _).mono ?_; rintro e w2 ⟨rfl, hb2⟩; have hk2 := box_keep (F := F) (S := S) (B := w.heap.size) ⟨by simp, by simp, Below.refl _ _, by simp⟩ hb2; clear hb2)
        | (go_at_call 21; refine (rprogram_any _ _ _ _).mono ?_; rintro e w2 ⟨rfl, hb2⟩; have hk2 := box_keep (by assumption) hb2; clear hb2)
        | (go_at_call 18; refine (between_any _ _ _ _ _).mono ?_; rintro e w2 ⟨rfl, hb2⟩; have hk2 := box_keep (by assumption) hb2; clear hb2)
        | (go_at_call 22; refine (rbetween_any _ _ _ _ _).mono ?_; rintro e w2 ⟨rfl, hb2⟩; have hk2 := box_keep (by assumption) hb2; clear hb2)
        | (go_at_call 23; refine (valid_any _ _ _).mono ?_; rintro e w2 ⟨rfl, hb2⟩; have hk2 := box_keep (by assumption) hb2; clear hb2)
        | (go_at_call 15; refine (rvalid_any _ _ _).mono ?_; rintro e w2 ⟨rfl, hb2⟩; have hk2 := box_keep (by assumption) hb2; clear hb2)
        | (go_at_call 16; refine (sane_any _).mono ?_; rintro e ws ⟨rfl, hbs⟩; have hks := box_keep (by assumption) hbs; clear hbs))
      have k0 := cell_regrown hk2.1
      have k1 := cell_regrown hk2.2.1
      have q1 : ∀ d os, Calls Try.prog 23 #[.agg #[.int .i64 F, .int .i64 S]] (grow (redrawn w2 d) os) fun e w'' => e = .returned (.bool (vld F S)) ∧ ∃ p : Regrown, w'' = grow (redrawn w2 p.d) p.os := fun d os => Calls.regrown_of (valid_any F S _)
      have q2 : ∀ d os, Calls Try.prog 15 #[.agg #[.int .i64 F, .int .i64 S]] (grow (redrawn w2 d) os) fun e w'' => e = .returned (.bool (vld F S)) ∧ ∃ p : Regrown, w'' = grow (redrawn w2 p.d) p.os := fun d os => Calls.regrown_of (rvalid_any F S _)
      have q0 : (vld F S != vld F S) = false := by simp
      have q3 : (bV F S a c != bV F S a c) = false := by simp
      have q4 : (pB F S t != pB F S t) = false := by simp
      refine wp_region_quiet_below mixed (by kernel_rfl) ?_
      repeat (go_big_quiet_step (first | with_reducible exact q1 _ _ | with_reducible exact q2 _ _))
      refine wpQuiet_nil ?_
      intro _ hw'
      obtain ⟨⟨dq, osq⟩, hw''⟩ := hw'
      subst hw''
      have hk3 := box_keep hk2 (below_regrown w2 dq osq)
      clear k0 k1 q0 q1 q2 q3 q4 hk2
      generalize grow (redrawn w2 dq) osq = w2 at *
      go_wp2_with (first
        | (go_at_call 18; refine (between_any _ _ _ _ _).mono ?_; rintro e w2 ⟨rfl, hb2⟩; have hk2 := box_keep (by assumption) hb2; clear hb2)
        | (go_at_call 22; refine (rbetween_any _ _ _ _ _).mono ?_; rintro e w2 ⟨rfl, hb2⟩; have hk2 := box_keep (by assumption) hb2; clear hb2)
        | (go_at_call 23; refine (valid_any _ _ _).mono ?_; rintro e w2 ⟨rfl, hb2⟩; have hk2 := box_keep (by assumption) hb2; clear hb2)
        | (go_at_call 15; refine (rvalid_any _ _ _).mono ?_; rintro e w2 ⟨rfl, hb2⟩; have hk2 := box_keep (by assumption) hb2; clear hb2)
        | (go_at_call 16; refine (sane_any _).mono ?_; rintro e ws ⟨rfl, hbs⟩; have hks := box_keep (by assumption) hbs; clear hbs))
      go_ret
      obtain ⟨-, -, hB, -⟩ := (by assumption : _ ∧ _ ∧ _ ∧ _)
      exact ⟨rfl, ((Below.refl w.heap.size w).alloc (Nat.le_refl _) _).trans (hB.mono (by omega))⟩
  · go_enter Try.func6, Try.ntmps6
    go_wp2_with (first
      | (go_at_call 20; refine (program_any' _ _ _ _).mono ?_; rintro e w2 ⟨rfl, hb2⟩; have hk2 := box_keep (F := F) (S := S) (B := w.heap.size) ⟨by simp, by simp, Below.refl _ _, by simp⟩ hb2; clear hb2)
      | (go_at_call 21; refine (rprogram_any _ _ _ _).mono ?_; rintro e w2 ⟨rfl, hb2⟩; have hk2 := box_keep (by assumption) hb2; clear hb2)
      | (go_at_call 18; refine (between_any _ _ _ _ _).mono ?_; rintro e w2 ⟨rfl, hb2⟩; have hk2 := box_keep (by assumption) hb2; clear hb2)
      | (go_at_call 22; refine (rbetween_any _ _ _ _ _).mono ?_; rintro e w2 ⟨rfl, hb2⟩; have hk2 := box_keep (by assumption) hb2; clear hb2)
      | (go_at_call 23; refine (valid_any _ _ _).mono ?_; rintro e w2 ⟨rfl, hb2⟩; have hk2 := box_keep (by assumption) hb2; clear hb2)
      | (go_at_call 15; refine (rvalid_any _ _ _).mono ?_; rintro e w2 ⟨rfl, hb2⟩; have hk2 := box_keep (by assumption) hb2; clear hb2)
      | (go_at_call 16; refine (sane_any _).mono ?_; rintro e ws ⟨rfl, hbs⟩; have hks := box_keep (by assumption) hbs; clear hbs))
    have k0 := cell_regrown hk2.1
    have k1 := cell_regrown hk2.2.1
    have q1 : ∀ d os, Calls Try.prog 23 #[.agg #[.int .i64 F, .int .i64 S]] (grow (redrawn w2 d) os) fun e w'' => e = .returned (.bool (vld F S)) ∧ ∃ p : Regrown, w'' = grow (redrawn w2 p.d) p.os := fun d os => Calls.regrown_of (valid_any F S _)
    have q2 : ∀ d os, Calls Try.prog 15 #[.agg #[.int .i64 F, .int .i64 S]] (grow (redrawn w2 d) os) fun e w'' => e = .returned (.bool (vld F S)) ∧ ∃ p : Regrown, w'' = grow (redrawn w2 p.d) p.os := fun d os => Calls.regrown_of (rvalid_any F S _)
    have q0 : (vld F S != vld F S) = false := by simp
    have q3 : (bV F S a c != bV F S a c) = false := by simp
    have q4 : (pB F S t != pB F S t) = false := by simp
    refine wp_region_quiet_below mixed (by kernel_rfl) ?_
    repeat (go_big_quiet_step (first | with_reducible exact q1 _ _ | with_reducible exact q2 _ _))
    refine wpQuiet_nil ?_
    intro _ hw'
    obtain ⟨⟨dq, osq⟩, hw''⟩ := hw'
    subst hw''
    have hk3 := box_keep hk2 (below_regrown w2 dq osq)
    clear k0 k1 q0 q1 q2 q3 q4 hk2
    generalize grow (redrawn w2 dq) osq = w2 at *
    go_wp2_with (first
      | (go_at_call 18; refine (between_any _ _ _ _ _).mono ?_; rintro e w2 ⟨rfl, hb2⟩; have hk2 := box_keep (by assumption) hb2; clear hb2)
      | (go_at_call 22; refine (rbetween_any _ _ _ _ _).mono ?_; rintro e w2 ⟨rfl, hb2⟩; have hk2 := box_keep (by assumption) hb2; clear hb2)
      | (go_at_call 23; refine (valid_any _ _ _).mono ?_; rintro e w2 ⟨rfl, hb2⟩; have hk2 := box_keep (by assumption) hb2; clear hb2)
      | (go_at_call 15; refine (rvalid_any _ _ _).mono ?_; rintro e w2 ⟨rfl, hb2⟩; have hk2 := box_keep (by assumption) hb2; clear hb2)
      | (go_at_call 16; refine (sane_any _).mono ?_; rintro e ws ⟨rfl, hbs⟩; have hks := box_keep (by assumption) hbs; clear hbs))
    go_ret
    obtain ⟨-, -, hB, -⟩ := (by assumption : _ ∧ _ ∧ _ ∧ _)
    exact ⟨rfl, ((Below.refl w.heap.size w).alloc (Nat.le_refl _) _).trans (hB.mono (by omega))⟩

theorem walk_m (F S t a b c : Int) (w : World) (k1 : bE F S a c = 0) (k2 : a ≤ b) (k3 : c < b) : 
    Calls Try.prog 6 #[.agg #[.int .i64 F, .int .i64 S], .int .i64 t, .int .i64 a, .int .i64 b, .int .i64 c] w fun e w' => e = .returned (.bool true) ∧ Below w.heap.size w w' := by
  rcases pE_01 F S t with h | h
  · by_cases u1 : t < 1000000
    · obtain ⟨hv, g1, g2, g3⟩ := pE_ok h
      obtain ⟨h1, h2, h3, h4⟩ := vld_t hv
      obtain ⟨m1, m2⟩ := bE_mk (F := F) (S := S) (a := t) (b := t + 1) hv g1 (by omega) (by omega)
      rw [ah_step F S t (by omega) h3 (by omega)] at m2
      by_cases u4 : S ≤ t % F
      · have u5 : pB F S t = true := by rw [g3]; simpa using u4
        have u6 : bV F S t (t + 1) = 1 := by rw [m2, if_pos u4]; omega
        clear m2 g3 u4 hv h1 h2 h3 h4
        go_enter Try.func6, Try.ntmps6
        go_wp2_with (first
          | (go_at_call 20; refine (program_any' _ _ _ _).mono ?_; rintro e w2 ⟨rfl, hb2⟩; have hk2 := box_keep (F := F) (S := S) (B := w.heap.size) ⟨by simp, by simp, Below.refl _ _, by simp⟩ hb2; clear hb2)
          | (go_at_call 21; refine (rprogram_any _ _ _ _).mono ?_; rintro e w2 ⟨rfl, hb2⟩; have hk2 := box_keep (by assumption) hb2; clear hb2)
          | (go_at_call 18; refine (between_any _ _ _ _ _).mono ?_; rintro e w2 ⟨rfl, hb2⟩; have hk2 := box_keep (by assumption) hb2; clear hb2)
          | (go_at_call 22; refine (rbetween_any _ _ _ _ _).mono ?_; rintro e w2 ⟨rfl, hb2⟩; have hk2 := box_keep (by assumption) hb2; clear hb2)
          | (go_at_call 23; refine (valid_any _ _ _).mono ?_; rintro e w2 ⟨rfl, hb2⟩; have hk2 := box_keep (by assumption) hb2; clear hb2)
          | (go_at_call 15; refine (rvalid_any _ _ _).mono ?_; rintro e w2 ⟨rfl, hb2⟩; have hk2 := box_keep (by assumption) hb2; clear hb2)
          | (go_at_call 16; refine (sane_any _).mono ?_; rintro e ws ⟨rfl, hbs⟩; have hks := box_keep (by assumption) hbs; clear hbs))
        have k0 := cell_regrown hk2.1
        have k1 := cell_regrown hk2.2.1
        have q1 : ∀ d os, Calls Try.prog 23 #[.agg #[.int .i64 F, .int .i64 S]] (grow (redrawn w2 d) os) fun e w'' => e = .returned (.bool (vld F S)) ∧ ∃ p : Regrown, w'' = grow (redrawn w2 p.d) p.os := fun d os => Calls.regrown_of (valid_any F S _)
        have q2 : ∀ d os, Calls Try.prog 15 #[.agg #[.int .i64 F, .int .i64 S]] (grow (redrawn w2 d) os) fun e w'' => e = .returned (.bool (vld F S)) ∧ ∃ p : Regrown, w'' = grow (redrawn w2 p.d) p.os := fun d os => Calls.regrown_of (rvalid_any F S _)
        have q0 : (vld F S != vld F S) = false := by simp
        have q3 : (bV F S a c != bV F S a c) = false := by simp
        have q4 : (pB F S t != pB F S t) = false := by simp
        refine wp_region_quiet_below mixed (by kernel_rfl) ?_
        repeat (go_big_quiet_step (first | with_reducible exact q1 _ _ | with_reducible exact q2 _ _))
        refine wpQuiet_nil ?_
        intro _ hw'
        obtain ⟨⟨dq, osq⟩, hw''⟩ := hw'
        subst hw''
        have hk3 := box_keep hk2 (below_regrown w2 dq osq)
        clear k0 k1 q0 q1 q2 q3 q4 hk2
        generalize grow (redrawn w2 dq) osq = w2 at *
        go_wp2_with (first
          | (go_at_call 18; refine (between_any _ _ _ _ _).mono ?_; rintro e w2 ⟨rfl, hb2⟩; have hk2 := box_keep (by assumption) hb2; clear hb2)
          | (go_at_call 22; refine (rbetween_any _ _ _ _ _).mono ?_; rintro e w2 ⟨rfl, hb2⟩; have hk2 := box_keep (by assumption) hb2; clear hb2)
          | (go_at_call 23; refine (valid_any _ _ _).mono ?_; rintro e w2 ⟨rfl, hb2⟩; have hk2 := box_keep (by assumption) hb2; clear hb2)
          | (go_at_call 15; refine (rvalid_any _ _ _).mono ?_; rintro e w2 ⟨rfl, hb2⟩; have hk2 := box_keep (by assumption) hb2; clear hb2)
          | (go_at_call 16; refine (sane_any _).mono ?_; rintro e ws ⟨rfl, hbs⟩; have hks := box_keep (by assumption) hbs; clear hbs))
        go_ret
        obtain ⟨-, -, hB, -⟩ := (by assumption : _ ∧ _ ∧ _ ∧ _)
        exact ⟨rfl, ((Below.refl w.heap.size w).alloc (Nat.le_refl _) _).trans (hB.mono (by omega))⟩
      · have u5 : pB F S t = false := by rw [g3]; simpa using u4
        have u6 : bV F S t (t + 1) = 0 := by rw [m2, if_neg u4]; omega
        clear m2 g3 u4 hv h1 h2 h3 h4
        go_enter Try.func6, Try.ntmps6
        go_wp2_with (first
          | (go_at_call 20; refine (program_any' _ _ _ _).mono ?_; rintro e w2 ⟨rfl, hb2⟩; have hk2 := box_keep (F := F) (S := S) (B := w.heap.size) ⟨by simp, by simp, Below.refl _ _, by simp⟩ hb2; clear hb2)
          | (go_at_call 21; refine (rprogram_any _ _ _ _).mono ?_; rintro e w2 ⟨rfl, hb2⟩; have hk2 := box_keep (by assumption) hb2; clear hb2)
          | (go_at_call 18; refine (between_any _ _ _ _ _).mono ?_; rintro e w2 ⟨rfl, hb2⟩; have hk2 := box_keep (by assumption) hb2; clear hb2)
          | (go_at_call 22; refine (rbetween_any _ _ _ _ _).mono ?_; rintro e w2 ⟨rfl, hb2⟩; have hk2 := box_keep (by assumption) hb2; clear hb2)
          | (go_at_call 23; refine (valid_any _ _ _).mono ?_; rintro e w2 ⟨rfl, hb2⟩; have hk2 := box_keep (by assumption) hb2; clear hb2)
          | (go_at_call 15; refine (rvalid_any _ _ _).mono ?_; rintro e w2 ⟨rfl, hb2⟩; have hk2 := box_keep (by assumption) hb2; clear hb2)
          | (go_at_call 16; refine (sane_any _).mono ?_; rintro e ws ⟨rfl, hbs⟩; have hks := box_keep (by assumption) hbs; clear hbs))
        have k0 := cell_regrown hk2.1
        have k1 := cell_regrown hk2.2.1
        have q1 : ∀ d os, Calls Try.prog 23 #[.agg #[.int .i64 F, .int .i64 S]] (grow (redrawn w2 d) os) fun e w'' => e = .returned (.bool (vld F S)) ∧ ∃ p : Regrown, w'' = grow (redrawn w2 p.d) p.os := fun d os => Calls.regrown_of (valid_any F S _)
        have q2 : ∀ d os, Calls Try.prog 15 #[.agg #[.int .i64 F, .int .i64 S]] (grow (redrawn w2 d) os) fun e w'' => e = .returned (.bool (vld F S)) ∧ ∃ p : Regrown, w'' = grow (redrawn w2 p.d) p.os := fun d os => Calls.regrown_of (rvalid_any F S _)
        have q0 : (vld F S != vld F S) = false := by simp
        have q3 : (bV F S a c != bV F S a c) = false := by simp
        have q4 : (pB F S t != pB F S t) = false := by simp
        refine wp_region_quiet_below mixed (by kernel_rfl) ?_
        repeat (go_big_quiet_step (first | with_reducible exact q1 _ _ | with_reducible exact q2 _ _))
        refine wpQuiet_nil ?_
        intro _ hw'
        obtain ⟨⟨dq, osq⟩, hw''⟩ := hw'
        subst hw''
        have hk3 := box_keep hk2 (below_regrown w2 dq osq)
        clear k0 k1 q0 q1 q2 q3 q4 hk2
        generalize grow (redrawn w2 dq) osq = w2 at *
        go_wp2_with (first
          | (go_at_call 18; refine (between_any _ _ _ _ _).mono ?_; rintro e w2 ⟨rfl, hb2⟩; have hk2 := box_keep (by assumption) hb2; clear hb2)
          | (go_at_call 22; refine (rbetween_any _ _ _ _ _).mono ?_; rintro e w2 ⟨rfl, hb2⟩; have hk2 := box_keep (by assumption) hb2; clear hb2)
          | (go_at_call 23; refine (valid_any _ _ _).mono ?_; rintro e w2 ⟨rfl, hb2⟩; have hk2 := box_keep (by assumption) hb2; clear hb2)
          | (go_at_call 15; refine (rvalid_any _ _ _).mono ?_; rintro e w2 ⟨rfl, hb2⟩; have hk2 := box_keep (by assumption) hb2; clear hb2)
          | (go_at_call 16; refine (sane_any _).mono ?_; rintro e ws ⟨rfl, hbs⟩; have hks := box_keep (by assumption) hbs; clear hbs))
        go_ret
        obtain ⟨-, -, hB, -⟩ := (by assumption : _ ∧ _ ∧ _ ∧ _)
        exact ⟨rfl, ((Below.refl w.heap.size w).alloc (Nat.le_refl _) _).trans (hB.mono (by omega))⟩
    · go_enter Try.func6, Try.ntmps6
      go_wp2_with (first
        | (go_at_call 20; refine (program_any' _ _ _ _).mono ?_; rintro e w2 ⟨rfl, hb2⟩; have hk2 := box_keep (F := F) (S := S) (B := w.heap.size) ⟨by simp, by simp, Below.refl _ _, by simp⟩ hb2; clear hb2)
        | (go_at_call 21; refine (rprogram_any _ _ _ _).mono ?_; rintro e w2 ⟨rfl, hb2⟩; have hk2 := box_keep (by assumption) hb2; clear hb2)
        | (go_at_call 18; refine (between_any _ _ _ _ _).mono ?_; rintro e w2 ⟨rfl, hb2⟩; have hk2 := box_keep (by assumption) hb2; clear hb2)
        | (go_at_call 22; refine (rbetween_any _ _ _ _ _).mono ?_; rintro e w2 ⟨rfl, hb2⟩; have hk2 := box_keep (by assumption) hb2; clear hb2)
        | (go_at_call 23; refine (valid_any _ _ _).mono ?_; rintro e w2 ⟨rfl, hb2⟩; have hk2 := box_keep (by assumption) hb2; clear hb2)
        | (go_at_call 15; refine (rvalid_any _ _ _).mono ?_; rintro e w2 ⟨rfl, hb2⟩; have hk2 := box_keep (by assumption) hb2; clear hb2)
        | (go_at_call 16; refine (sane_any _).mono ?_; rintro e ws ⟨rfl, hbs⟩; have hks := box_keep (by assumption) hbs; clear hbs))
      have k0 := cell_regrown hk2.1
      have k1 := cell_regrown hk2.2.1
      have q1 : ∀ d os, Calls Try.prog 23 #[.agg #[.int .i64 F, .int .i64 S]] (grow (redrawn w2 d) os) fun e w'' => e = .returned (.bool (vld F S)) ∧ ∃ p : Regrown, w'' = grow (redrawn w2 p.d) p.os := fun d os => Calls.regrown_of (valid_any F S _)
      have q2 : ∀ d os, Calls Try.prog 15 #[.agg #[.int .i64 F, .int .i64 S]] (grow (redrawn w2 d) os) fun e w'' => e = .returned (.bool (vld F S)) ∧ ∃ p : Regrown, w'' = grow (redrawn w2 p.d) p.os := fun d os => Calls.regrown_of (rvalid_any F S _)
      have q0 : (vld F S != vld F S) = false := by simp
      have q3 : (bV F S a c != bV F S a c) = false := by simp
      have q4 : (pB F S t != pB F S t) = false := by simp
      refine wp_region_quiet_below mixed (by kernel_rfl) ?_
      repeat (go_big_quiet_step (first | with_reducible exact q1 _ _ | with_reducible exact q2 _ _))
      refine wpQuiet_nil ?_
      intro _ hw'
      obtain ⟨⟨dq, osq⟩, hw''⟩ := hw'
      subst hw''
      have hk3 := box_keep hk2 (below_regrown w2 dq osq)
      clear k0 k1 q0 q1 q2 q3 q4 hk2
      generalize grow (redrawn w2 dq) osq = w2 at *
      go_wp2_with (first
        | (go_at_call 18; refine (between_any _ _ _ _ _).mono ?_; rintro e w2 ⟨rfl, hb2⟩; have hk2 := box_keep (by assumption) hb2; clear hb2)
        | (go_at_call 22; refine (rbetween_any _ _ _ _ _).mono ?_; rintro e w2 ⟨rfl, hb2⟩; have hk2 := box_keep (by assumption) hb2; clear hb2)
        | (go_at_call 23; refine (valid_any _ _ _).mono ?_; rintro e w2 ⟨rfl, hb2⟩; have hk2 := box_keep (by assumption) hb2; clear hb2)
        | (go_at_call 15; refine (rvalid_any _ _ _).mono ?_; rintro e w2 ⟨rfl, hb2⟩; have hk2 := box_keep (by assumption) hb2; clear hb2)
        | (go_at_call 16; refine (sane_any _).mono ?_; rintro e ws ⟨rfl, hbs⟩; have hks := box_keep (by assumption) hbs; clear hbs))
      go_ret
      obtain ⟨-, -, hB, -⟩ := (by assumption : _ ∧ _ ∧ _ ∧ _)
      exact ⟨rfl, ((Below.refl w.heap.size w).alloc (Nat.le_refl _) _).trans (hB.mono (by omega))⟩
  · go_enter Try.func6, Try.ntmps6
    go_wp2_with (first
      | (go_at_call 20; refine (program_any' _ _ _ _).mono ?_; rintro e w2 ⟨rfl, hb2⟩; have hk2 := box_keep (F := F) (S := S) (B := w.heap.size) ⟨by simp, by simp, Below.refl _ _, by simp⟩ hb2; clear hb2)
      | (go_at_call 21; refine (rprogram_any _ _ _ _).mono ?_; rintro e w2 ⟨rfl, hb2⟩; have hk2 := box_keep (by assumption) hb2; clear hb2)
      | (go_at_call 18; refine (between_any _ _ _ _ _).mono ?_; rintro e w2 ⟨rfl, hb2⟩; have hk2 := box_keep (by assumption) hb2; clear hb2)
      | (go_at_call 22; refine (rbetween_any _ _ _ _ _).mono ?_; rintro e w2 ⟨rfl, hb2⟩; have hk2 := box_keep (by assumption) hb2; clear hb2)
      | (go_at_call 23; refine (valid_any _ _ _).mono ?_; rintro e w2 ⟨rfl, hb2⟩; have hk2 := box_keep (by assumption) hb2; clear hb2)
      | (go_at_call 15; refine (rvalid_any _ _ _).mono ?_; rintro e w2 ⟨rfl, hb2⟩; have hk2 := box_keep (by assumption) hb2; clear hb2)
      | (go_at_call 16; refine (sane_any _).mono ?_; rintro e ws ⟨rfl, hbs⟩; have hks := box_keep (by assumption) hbs; clear hbs))
    have k0 := cell_regrown hk2.1
    have k1 := cell_regrown hk2.2.1
    have q1 : ∀ d os, Calls Try.prog 23 #[.agg #[.int .i64 F, .int .i64 S]] (grow (redrawn w2 d) os) fun e w'' => e = .returned (.bool (vld F S)) ∧ ∃ p : Regrown, w'' = grow (redrawn w2 p.d) p.os := fun d os => Calls.regrown_of (valid_any F S _)
    have q2 : ∀ d os, Calls Try.prog 15 #[.agg #[.int .i64 F, .int .i64 S]] (grow (redrawn w2 d) os) fun e w'' => e = .returned (.bool (vld F S)) ∧ ∃ p : Regrown, w'' = grow (redrawn w2 p.d) p.os := fun d os => Calls.regrown_of (rvalid_any F S _)
    have q0 : (vld F S != vld F S) = false := by simp
    have q3 : (bV F S a c != bV F S a c) = false := by simp
    have q4 : (pB F S t != pB F S t) = false := by simp
    refine wp_region_quiet_below mixed (by kernel_rfl) ?_
    repeat (go_big_quiet_step (first | with_reducible exact q1 _ _ | with_reducible exact q2 _ _))
    refine wpQuiet_nil ?_
    intro _ hw'
    obtain ⟨⟨dq, osq⟩, hw''⟩ := hw'
    subst hw''
    have hk3 := box_keep hk2 (below_regrown w2 dq osq)
    clear k0 k1 q0 q1 q2 q3 q4 hk2
    generalize grow (redrawn w2 dq) osq = w2 at *
    go_wp2_with (first
      | (go_at_call 18; refine (between_any _ _ _ _ _).mono ?_; rintro e w2 ⟨rfl, hb2⟩; have hk2 := box_keep (by assumption) hb2; clear hb2)
      | (go_at_call 22; refine (rbetween_any _ _ _ _ _).mono ?_; rintro e w2 ⟨rfl, hb2⟩; have hk2 := box_keep (by assumption) hb2; clear hb2)
      | (go_at_call 23; refine (valid_any _ _ _).mono ?_; rintro e w2 ⟨rfl, hb2⟩; have hk2 := box_keep (by assumption) hb2; clear hb2)
      | (go_at_call 15; refine (rvalid_any _ _ _).mono ?_; rintro e w2 ⟨rfl, hb2⟩; have hk2 := box_keep (by assumption) hb2; clear hb2)
      | (go_at_call 16; refine (sane_any _).mono ?_; rintro e ws ⟨rfl, hbs⟩; have hks := box_keep (by assumption) hbs; clear hbs))
    go_ret
    obtain ⟨-, -, hB, -⟩ := (by assumption : _ ∧ _ ∧ _ ∧ _)
    exact ⟨rfl, ((Below.refl w.heap.size w).alloc (Nat.le_refl _) _).trans (hB.mono (by omega))⟩

theorem walk_x (F S t a b c : Int) (w : World) (k1 : bE F S a c = 1) : 
    Calls Try.prog 6 #[.agg #[.int .i64 F, .int .i64 S], .int .i64 t, .int .i64 a, .int .i64 b, .int .i64 c] w fun e w' => e = .returned (.bool true) ∧ Below w.heap.size w w' := by
  rcases pE_01 F S t with h | h
  · by_cases u1 : t < 1000000
    · obtain ⟨hv, g1, g2, g3⟩ := pE_ok h
      obtain ⟨h1, h2, h3, h4⟩ := vld_t hv
      obtain ⟨m1, m2⟩ := bE_mk (F := F) (S := S) (a := t) (b := t + 1) hv g1 (by omega) (by omega)
      rw [ah_step F S t (by omega) h3 (by omega)] at m2
      by_cases u4 : S ≤ t % F
      · have u5 : pB F S t = true := by rw [g3]; simpa using u4
        have u6 : bV F S t (t + 1) = 1 := by rw [m2, if_pos u4]; omega
        clear m2 g3 u4 hv h1 h2 h3 h4
        go_enter Try.func6, Try.ntmps6
        go_wp2_with (first
          | (go_at_call 20; refine (program_any' _ _ _ _).mono ?_; rintro e w2 ⟨rfl, hb2⟩; have hk2 := box_keep (F := F) (S := S) (B := w.heap.size) ⟨by simp, by simp, Below.refl _ _, by simp⟩ hb2; clear hb2)
          | (go_at_call 21; refine (rprogram_any _ _ _ _).mono ?_; rintro e w2 ⟨rfl, hb2⟩; have hk2 := box_keep (by assumption) hb2; clear hb2)
          | (go_at_call 18; refine (between_any _ _ _ _ _).mono ?_; rintro e w2 ⟨rfl, hb2⟩; have hk2 := box_keep (by assumption) hb2; clear hb2)
          | (go_at_call 22; refine (rbetween_any _ _ _ _ _).mono ?_; rintro e w2 ⟨rfl, hb2⟩; have hk2 := box_keep (by assumption) hb2; clear hb2)
          | (go_at_call 23; refine (valid_any _ _ _).mono ?_; rintro e w2 ⟨rfl, hb2⟩; have hk2 := box_keep (by assumption) hb2; clear hb2)
          | (go_at_call 15; refine (rvalid_any _ _ _).mono ?_; rintro e w2 ⟨rfl, hb2⟩; have hk2 := box_keep (by assumption) hb2; clear hb2)
          | (go_at_call 16; refine (sane_any _).mono ?_; rintro e ws ⟨rfl, hbs⟩; have hks := box_keep (by assumption) hbs; clear hbs))
        have k0 := cell_regrown hk2.1
        have k1 := cell_regrown hk2.2.1
        have q1 : ∀ d os, Calls Try.prog 23 #[.agg #[.int .i64 F, .int .i64 S]] (grow (redrawn w2 d) os) fun e w'' => e = .returned (.bool (vld F S)) ∧ ∃ p : Regrown, w'' = grow (redrawn w2 p.d) p.os := fun d os => Calls.regrown_of (valid_any F S _)
        have q2 : ∀ d os, Calls Try.prog 15 #[.agg #[.int .i64 F, .int .i64 S]] (grow (redrawn w2 d) os) fun e w'' => e = .returned (.bool (vld F S)) ∧ ∃ p : Regrown, w'' = grow (redrawn w2 p.d) p.os := fun d os => Calls.regrown_of (rvalid_any F S _)
        have q0 : (vld F S != vld F S) = false := by simp
        have q3 : (bV F S a c != bV F S a c) = false := by simp
        have q4 : (pB F S t != pB F S t) = false := by simp
        refine wp_region_quiet_below mixed (by kernel_rfl) ?_
        repeat (go_big_quiet_step (first | with_reducible exact q1 _ _ | with_reducible exact q2 _ _))
        refine wpQuiet_nil ?_
        intro _ hw'
        obtain ⟨⟨dq, osq⟩, hw''⟩ := hw'
        subst hw''
        have hk3 := box_keep hk2 (below_regrown w2 dq osq)
        clear k0 k1 q0 q1 q2 q3 q4 hk2
        generalize grow (redrawn w2 dq) osq = w2 at *
        go_wp2_with (first
          | (go_at_call 18; refine (between_any _ _ _ _ _).mono ?_; rintro e w2 ⟨rfl, hb2⟩; have hk2 := box_keep (by assumption) hb2; clear hb2)
          | (go_at_call 22; refine (rbetween_any _ _ _ _ _).mono ?_; rintro e w2 ⟨rfl, hb2⟩; have hk2 := box_keep (by assumption) hb2; clear hb2)
          | (go_at_call 23; refine (valid_any _ _ _).mono ?_; rintro e w2 ⟨rfl, hb2⟩; have hk2 := box_keep (by assumption) hb2; clear hb2)
          | (go_at_call 15; refine (rvalid_any _ _ _).mono ?_; rintro e w2 ⟨rfl, hb2⟩; have hk2 := box_keep (by assumption) hb2; clear hb2)
          | (go_at_call 16; refine (sane_any _).mono ?_; rintro e ws ⟨rfl, hbs⟩; have hks := box_keep (by assumption) hbs; clear hbs))
        go_ret
        obtain ⟨-, -, hB, -⟩ := (by assumption : _ ∧ _ ∧ _ ∧ _)
        exact ⟨rfl, ((Below.refl w.heap.size w).alloc (Nat.le_refl _) _).trans (hB.mono (by omega))⟩
      · have u5 : pB F S t = false := by rw [g3]; simpa using u4
        have u6 : bV F S t (t + 1) = 0 := by rw [m2, if_neg u4]; omega
        clear m2 g3 u4 hv h1 h2 h3 h4
        go_enter Try.func6, Try.ntmps6
        go_wp2_with (first
          | (go_at_call 20; refine (program_any' _ _ _ _).mono ?_; rintro e w2 ⟨rfl, hb2⟩; have hk2 := box_keep (F := F) (S := S) (B := w.heap.size) ⟨by simp, by simp, Below.refl _ _, by simp⟩ hb2; clear hb2)
          | (go_at_call 21; refine (rprogram_any _ _ _ _).mono ?_; rintro e w2 ⟨rfl, hb2⟩; have hk2 := box_keep (by assumption) hb2; clear hb2)
          | (go_at_call 18; refine (between_any _ _ _ _ _).mono ?_; rintro e w2 ⟨rfl, hb2⟩; have hk2 := box_keep (by assumption) hb2; clear hb2)
          | (go_at_call 22; refine (rbetween_any _ _ _ _ _).mono ?_; rintro e w2 ⟨rfl, hb2⟩; have hk2 := box_keep (by assumption) hb2; clear hb2)
          | (go_at_call 23; refine (valid_any _ _ _).mono ?_; rintro e w2 ⟨rfl, hb2⟩; have hk2 := box_keep (by assumption) hb2; clear hb2)
          | (go_at_call 15; refine (rvalid_any _ _ _).mono ?_; rintro e w2 ⟨rfl, hb2⟩; have hk2 := box_keep (by assumption) hb2; clear hb2)
          | (go_at_call 16; refine (sane_any _).mono ?_; rintro e ws ⟨rfl, hbs⟩; have hks := box_keep (by assumption) hbs; clear hbs))
        have k0 := cell_regrown hk2.1
        have k1 := cell_regrown hk2.2.1
        have q1 : ∀ d os, Calls Try.prog 23 #[.agg #[.int .i64 F, .int .i64 S]] (grow (redrawn w2 d) os) fun e w'' => e = .returned (.bool (vld F S)) ∧ ∃ p : Regrown, w'' = grow (redrawn w2 p.d) p.os := fun d os => Calls.regrown_of (valid_any F S _)
        have q2 : ∀ d os, Calls Try.prog 15 #[.agg #[.int .i64 F, .int .i64 S]] (grow (redrawn w2 d) os) fun e w'' => e = .returned (.bool (vld F S)) ∧ ∃ p : Regrown, w'' = grow (redrawn w2 p.d) p.os := fun d os => Calls.regrown_of (rvalid_any F S _)
        have q0 : (vld F S != vld F S) = false := by simp
        have q3 : (bV F S a c != bV F S a c) = false := by simp
        have q4 : (pB F S t != pB F S t) = false := by simp
        refine wp_region_quiet_below mixed (by kernel_rfl) ?_
        repeat (go_big_quiet_step (first | with_reducible exact q1 _ _ | with_reducible exact q2 _ _))
        refine wpQuiet_nil ?_
        intro _ hw'
        obtain ⟨⟨dq, osq⟩, hw''⟩ := hw'
        subst hw''
        have hk3 := box_keep hk2 (below_regrown w2 dq osq)
        clear k0 k1 q0 q1 q2 q3 q4 hk2
        generalize grow (redrawn w2 dq) osq = w2 at *
        go_wp2_with (first
          | (go_at_call 18; refine (between_any _ _ _ _ _).mono ?_; rintro e w2 ⟨rfl, hb2⟩; have hk2 := box_keep (by assumption) hb2; clear hb2)
          | (go_at_call 22; refine (rbetween_any _ _ _ _ _).mono ?_; rintro e w2 ⟨rfl, hb2⟩; have hk2 := box_keep (by assumption) hb2; clear hb2)
          | (go_at_call 23; refine (valid_any _ _ _).mono ?_; rintro e w2 ⟨rfl, hb2⟩; have hk2 := box_keep (by assumption) hb2; clear hb2)
          | (go_at_call 15; refine (rvalid_any _ _ _).mono ?_; rintro e w2 ⟨rfl, hb2⟩; have hk2 := box_keep (by assumption) hb2; clear hb2)
          | (go_at_call 16; refine (sane_any _).mono ?_; rintro e ws ⟨rfl, hbs⟩; have hks := box_keep (by assumption) hbs; clear hbs))
        go_ret
        obtain ⟨-, -, hB, -⟩ := (by assumption : _ ∧ _ ∧ _ ∧ _)
        exact ⟨rfl, ((Below.refl w.heap.size w).alloc (Nat.le_refl _) _).trans (hB.mono (by omega))⟩
    · go_enter Try.func6, Try.ntmps6
      go_wp2_with (first
        | (go_at_call 20; refine (program_any' _ _ _ _).mono ?_; rintro e w2 ⟨rfl, hb2⟩; have hk2 := box_keep (F := F) (S := S) (B := w.heap.size) ⟨by simp, by simp, Below.refl _ _, by simp⟩ hb2; clear hb2)
        | (go_at_call 21; refine (rprogram_any _ _ _ _).mono ?_; rintro e w2 ⟨rfl, hb2⟩; have hk2 := box_keep (by assumption) hb2; clear hb2)
        | (go_at_call 18; refine (between_any _ _ _ _ _).mono ?_; rintro e w2 ⟨rfl, hb2⟩; have hk2 := box_keep (by assumption) hb2; clear hb2)
        | (go_at_call 22; refine (rbetween_any _ _ _ _ _).mono ?_; rintro e w2 ⟨rfl, hb2⟩; have hk2 := box_keep (by assumption) hb2; clear hb2)
        | (go_at_call 23; refine (valid_any _ _ _).mono ?_; rintro e w2 ⟨rfl, hb2⟩; have hk2 := box_keep (by assumption) hb2; clear hb2)
        | (go_at_call 15; refine (rvalid_any _ _ _).mono ?_; rintro e w2 ⟨rfl, hb2⟩; have hk2 := box_keep (by assumption) hb2; clear hb2)
        | (go_at_call 16; refine (sane_any _).mono ?_; rintro e ws ⟨rfl, hbs⟩; have hks := box_keep (by assumption) hbs; clear hbs))
      have k0 := cell_regrown hk2.1
      have k1 := cell_regrown hk2.2.1
      have q1 : ∀ d os, Calls Try.prog 23 #[.agg #[.int .i64 F, .int .i64 S]] (grow (redrawn w2 d) os) fun e w'' => e = .returned (.bool (vld F S)) ∧ ∃ p : Regrown, w'' = grow (redrawn w2 p.d) p.os := fun d os => Calls.regrown_of (valid_any F S _)
      have q2 : ∀ d os, Calls Try.prog 15 #[.agg #[.int .i64 F, .int .i64 S]] (grow (redrawn w2 d) os) fun e w'' => e = .returned (.bool (vld F S)) ∧ ∃ p : Regrown, w'' = grow (redrawn w2 p.d) p.os := fun d os => Calls.regrown_of (rvalid_any F S _)
      have q0 : (vld F S != vld F S) = false := by simp
      have q3 : (bV F S a c != bV F S a c) = false := by simp
      have q4 : (pB F S t != pB F S t) = false := by simp
      refine wp_region_quiet_below mixed (by kernel_rfl) ?_
      repeat (go_big_quiet_step (first | with_reducible exact q1 _ _ | with_reducible exact q2 _ _))
      refine wpQuiet_nil ?_
      intro _ hw'
      obtain ⟨⟨dq, osq⟩, hw''⟩ := hw'
      subst hw''
      have hk3 := box_keep hk2 (below_regrown w2 dq osq)
      clear k0 k1 q0 q1 q2 q3 q4 hk2
      generalize grow (redrawn w2 dq) osq = w2 at *
      go_wp2_with (first
        | (go_at_call 18; refine (between_any _ _ _ _ _).mono ?_; rintro e w2 ⟨rfl, hb2⟩; have hk2 := box_keep (by assumption) hb2; clear hb2)
        | (go_at_call 22; refine (rbetween_any _ _ _ _ _).mono ?_; rintro e w2 ⟨rfl, hb2⟩; have hk2 := box_keep (by assumption) hb2; clear hb2)
        | (go_at_call 23; refine (valid_any _ _ _).mono ?_; rintro e w2 ⟨rfl, hb2⟩; have hk2 := box_keep (by assumption) hb2; clear hb2)
        | (go_at_call 15; refine (rvalid_any _ _ _).mono ?_; rintro e w2 ⟨rfl, hb2⟩; have hk2 := box_keep (by assumption) hb2; clear hb2)
        | (go_at_call 16; refine (sane_any _).mono ?_; rintro e ws ⟨rfl, hbs⟩; have hks := box_keep (by assumption) hbs; clear hbs))
      go_ret
      obtain ⟨-, -, hB, -⟩ := (by assumption : _ ∧ _ ∧ _ ∧ _)
      exact ⟨rfl, ((Below.refl w.heap.size w).alloc (Nat.le_refl _) _).trans (hB.mono (by omega))⟩
  · go_enter Try.func6, Try.ntmps6
    go_wp2_with (first
      | (go_at_call 20; refine (program_any' _ _ _ _).mono ?_; rintro e w2 ⟨rfl, hb2⟩; have hk2 := box_keep (F := F) (S := S) (B := w.heap.size) ⟨by simp, by simp, Below.refl _ _, by simp⟩ hb2; clear hb2)
      | (go_at_call 21; refine (rprogram_any _ _ _ _).mono ?_; rintro e w2 ⟨rfl, hb2⟩; have hk2 := box_keep (by assumption) hb2; clear hb2)
      | (go_at_call 18; refine (between_any _ _ _ _ _).mono ?_; rintro e w2 ⟨rfl, hb2⟩; have hk2 := box_keep (by assumption) hb2; clear hb2)
      | (go_at_call 22; refine (rbetween_any _ _ _ _ _).mono ?_; rintro e w2 ⟨rfl, hb2⟩; have hk2 := box_keep (by assumption) hb2; clear hb2)
      | (go_at_call 23; refine (valid_any _ _ _).mono ?_; rintro e w2 ⟨rfl, hb2⟩; have hk2 := box_keep (by assumption) hb2; clear hb2)
      | (go_at_call 15; refine (rvalid_any _ _ _).mono ?_; rintro e w2 ⟨rfl, hb2⟩; have hk2 := box_keep (by assumption) hb2; clear hb2)
      | (go_at_call 16; refine (sane_any _).mono ?_; rintro e ws ⟨rfl, hbs⟩; have hks := box_keep (by assumption) hbs; clear hbs))
    have k0 := cell_regrown hk2.1
    have k1 := cell_regrown hk2.2.1
    have q1 : ∀ d os, Calls Try.prog 23 #[.agg #[.int .i64 F, .int .i64 S]] (grow (redrawn w2 d) os) fun e w'' => e = .returned (.bool (vld F S)) ∧ ∃ p : Regrown, w'' = grow (redrawn w2 p.d) p.os := fun d os => Calls.regrown_of (valid_any F S _)
    have q2 : ∀ d os, Calls Try.prog 15 #[.agg #[.int .i64 F, .int .i64 S]] (grow (redrawn w2 d) os) fun e w'' => e = .returned (.bool (vld F S)) ∧ ∃ p : Regrown, w'' = grow (redrawn w2 p.d) p.os := fun d os => Calls.regrown_of (rvalid_any F S _)
    have q0 : (vld F S != vld F S) = false := by simp
    have q3 : (bV F S a c != bV F S a c) = false := by simp
    have q4 : (pB F S t != pB F S t) = false := by simp
    refine wp_region_quiet_below mixed (by kernel_rfl) ?_
    repeat (go_big_quiet_step (first | with_reducible exact q1 _ _ | with_reducible exact q2 _ _))
    refine wpQuiet_nil ?_
    intro _ hw'
    obtain ⟨⟨dq, osq⟩, hw''⟩ := hw'
    subst hw''
    have hk3 := box_keep hk2 (below_regrown w2 dq osq)
    clear k0 k1 q0 q1 q2 q3 q4 hk2
    generalize grow (redrawn w2 dq) osq = w2 at *
    go_wp2_with (first
      | (go_at_call 18; refine (between_any _ _ _ _ _).mono ?_; rintro e w2 ⟨rfl, hb2⟩; have hk2 := box_keep (by assumption) hb2; clear hb2)
      | (go_at_call 22; refine (rbetween_any _ _ _ _ _).mono ?_; rintro e w2 ⟨rfl, hb2⟩; have hk2 := box_keep (by assumption) hb2; clear hb2)
      | (go_at_call 23; refine (valid_any _ _ _).mono ?_; rintro e w2 ⟨rfl, hb2⟩; have hk2 := box_keep (by assumption) hb2; clear hb2)
      | (go_at_call 15; refine (rvalid_any _ _ _).mono ?_; rintro e w2 ⟨rfl, hb2⟩; have hk2 := box_keep (by assumption) hb2; clear hb2)
      | (go_at_call 16; refine (sane_any _).mono ?_; rintro e ws ⟨rfl, hbs⟩; have hks := box_keep (by assumption) hbs; clear hbs))
    go_ret
    obtain ⟨-, -, hB, -⟩ := (by assumption : _ ∧ _ ∧ _ ∧ _)
    exact ⟨rfl, ((Below.refl w.heap.size w).alloc (Nat.le_refl _) _).trans (hB.mono (by omega))⟩

theorem walk (F S t a b c : Int) (w : World) (w0 : (Lit.int .i64 F).wf = true) (w1 : (Lit.int .i64 S).wf = true) (w2 : (Lit.int .i64 t).wf = true) (w3 : (Lit.int .i64 a).wf = true) (w4 : (Lit.int .i64 b).wf = true) (w5 : (Lit.int .i64 c).wf = true) :
    Calls Try.prog 6 #[.agg #[.int .i64 F, .int .i64 S], .int .i64 t, .int .i64 a, .int .i64 b, .int .i64 c] w fun e w' => e = .returned (.bool true) ∧ Below w.heap.size w w' := by
  clear w0 w1 w2 w3 w4 w5
  rcases bE_01 F S a c with h | h
  · obtain ⟨hv, g1, g2, g3, g4⟩ := bE_ok h
    obtain ⟨h1, h2, h3, h4⟩ := vld_t hv
    by_cases c1 : b < a
    · exact walk_n F S t a b c w h c1
    · by_cases c2 : c < b
      · exact walk_m F S t a b c w h (by omega) c2
      · obtain ⟨m1, m2⟩ := bE_mk (F := F) (S := S) (a := a) (b := b) hv g1 (by omega) (by omega)
        obtain ⟨m3, m4⟩ := bE_mk (F := F) (S := S) (a := b) (b := c) hv (by omega) (by omega) (by omega)
        have i1 := ah_mono F S a b (by omega) h3 (by omega) (by omega)
        have i2 := ah_mono F S b c (by omega) h3 (by omega) (by omega)
        have e : IntKind.i64.wrap (bV F S a b + bV F S b c) = bV F S a b + bV F S b c := IntWalk.i64_in _ (by omega)
        have e2 : (bV F S a b + bV F S b c != bV F S a c) = false := by simp; omega
        exact walk_y F S t a b c w h (by omega) (by omega) m1 m3 (by rw [e]; exact e2) e e2 (by omega) (by omega)
  · exact walk_x F S t a b c w h

theorem own : ownKnob Try.prog.godebug = none := by kernel_rfl
theorem laidOut : laidOutB Try.prog = true := by kernel_rfl
theorem cells23 : Try.prog.cellsOf 23 = 2 := by kernel_rfl

set_option maxRecDepth 100000 in
theorem lifted (os : Os) (started : os.Started) (H : Type) (enc : TypeId × Value → H) :
    ReturnsInHanded {} Try.checked os 6 .any (Rows.supplyTicksSpec.pre6 enc Try.prog Try.f6 Rows.supplyTicksRow.domain false) (Rows.supplyTicksSpec.post enc Try.prog Try.f6 false true false false) := by
  refine returnsInHanded_of_change (C := Try.checked) own started (by kernel_rfl) Try.func6
    (ChangeSpec.witness6 (enc := enc) (C := Try.checked) false ⟨#[], #[.agg #[.int .i64 0, .int .i64 0], .int .i64 0, .int .i64 0, .int .i64 0, .int .i64 0], []⟩ 8 (by kernel_rfl) (by kernel_rfl) (by kernel_rfl) (by kernel_rfl)) ?_
  intro W base args ds gs before hval0 hW hcnd _
  have hval : ∀ (j : Nat) t v, Try.f6.params[j]? = some t → args[j]? = some v → Value.okWide Try.prog W .any base t v := hval0
  have hW' := hW
  obtain ⟨p, q, hA0, hV, rfl, hfz, hnd⟩ := hW
  have hA : DataW.TrodAll enc Try.prog W 0 (fun _ => true) true Try.f6.params.toList args.toList ds p := hA0
  rw [Try.params6] at hA hval
  obtain ⟨v0, vs0, d0, ds0, p0, q0, hargs, rfl, rfl, h0, r0⟩ := trodAll_cons hA
  obtain ⟨v1, vs1, d1, ds1, p1, q1, rfl, rfl, rfl, h1, r1⟩ := trodAll_cons r0
  obtain ⟨v2, vs2, d2, ds2, p2, q2, rfl, rfl, rfl, h2, r2⟩ := trodAll_cons r1
  obtain ⟨v3, vs3, d3, ds3, p3, q3, rfl, rfl, rfl, h3, r3⟩ := trodAll_cons r2
  obtain ⟨v4, vs4, d4, ds4, p4, q4, rfl, rfl, rfl, h4, r4⟩ := trodAll_cons r3
  obtain ⟨rfl, rfl, rfl⟩ := trodAll_nil r4
  obtain rfl : args = #[v0, v1, v2, v3, v4] := by cases args; simp_all
  obtain ⟨rfl, rfl⟩ := trodVars_none hV
  have k0 := h0
  have lt0 : ∀ x ∈ p0, x.block < W.heap.size := by obtain ⟨m, hm⟩ := k0; exact DataW.trod_lt m _ _ _ hm
  obtain ⟨c0_0, c0_1, y0_0, y0_1, m0, rfl, hd0, hp0, hy0_0, hy0_1⟩ := open_agg2 Try.underlying23 (by kernel_rfl) cells23 (hval 0 23 v0 rfl rfl) h0
  obtain ⟨a0_0, e0_0, -, w0_0⟩ := DataW.trod_int Try.underlying3 hy0_0
  simp at e0_0
  subst e0_0
  obtain ⟨a0_1, e0_1, -, w0_1⟩ := DataW.trod_int Try.underlying3 hy0_1
  simp at e0_1
  subst e0_1
  clear hd0 hp0
  obtain ⟨a1, rfl, rfl, rfl, w1⟩ := open_int Try.underlying3 (hval 1 3 v1 rfl rfl) h1
  obtain ⟨a2, rfl, rfl, rfl, w2⟩ := open_int Try.underlying3 (hval 2 3 v2 rfl rfl) h2
  obtain ⟨a3, rfl, rfl, rfl, w3⟩ := open_int Try.underlying3 (hval 3 3 v3 rfl rfl) h3
  obtain ⟨a4, rfl, rfl, rfl, w4⟩ := open_int Try.underlying3 (hval 4 3 v4 rfl rfl) h4
  clear hA0 hval0
  refine (walk a0_0 a0_1 a1 a2 a3 a4 W w0_0 w0_1 w1 w2 w3 w4).mono fun e W' ⟨he, bel⟩ => ?_
  subst he
  exact ⟨_, rfl, _, _, _, [], _, [], hW', trodAll_mk1 (shut_bool Try.underlying4 _), (trodAll_cons_mk (Below.trod laidOut (by kernel_rfl) (of_decide_eq_true (by kernel_rfl)) k0 bel lt0) (trodAll_cons_mk (shut_int Try.underlying3 w1) (trodAll_cons_mk (shut_int Try.underlying3 w2) (trodAll_cons_mk (shut_int Try.underlying3 w3) (trodAll_cons_mk (shut_int Try.underlying3 w4) trodAll_mk0))))), rfl, bel.frame _, fun h => by cases h⟩

theorem over : Rows.supplyTicksRow.holds Try.pinned (OpenSpec.ofChange Rows.supplyTicksSpec) :=
  OpenClaim.holds_of_wide 6 Try.f6 rfl rfl rfl rfl rfl rfl rfl ⟨rfl, rfl, rfl, rfl, rfl⟩ rfl rfl rfl rfl rfl (by kernel_rfl) Try.func6 (by kernel_rfl)
    (of_decide_eq_true (by kernel_rfl)) (by unfold Func.isWrapper; first | (rw [if_pos (by decide +kernel)]; kernel_rfl) | (rw [if_neg (by decide +kernel)]; exact ⟨rfl, rfl⟩))
    (fun os started H enc _ => lifted os started H enc)

/-- the statement -/
theorem proved : Rows.SupplyTicksSaid := over
end Go.Proofs.Ythiogahpoebamaa.supplyTicks
