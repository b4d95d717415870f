/- Contracts of the reference's small functions of layer 24. -/
import Derived.Test.YthiogahpoebamaaE
set_option linter.unusedVariables false
set_option linter.unusedSimpArgs false
namespace Go.Proofs.Ythiogahpoebamaa
open Go.RowKit Go.Sort Sup

theorem rvalid_any (F S : Int) (w : World) :
    Calls Try.prog 15 #[.agg #[.int .i64 F, .int .i64 S]] w fun e w' => e = .returned (.bool (vld F S)) ∧ Below w.heap.size w w' := by
  by_cases h1 : 1 ≤ F ∧ F ≤ 60
  · obtain ⟨h1, h2⟩ := h1
    have e1 : (decide (1 ≤ F) && decide (F ≤ 60)) = true := by simp [h1, h2]
    go_enter Try.func15, Try.ntmps15
    go_wp2_with (go_at_call 48; refine (in_any _ _ _ _).mono ?_; rintro e w' ⟨rfl, rfl⟩; try rw [e1])
    go_ret
    exact ⟨by simp [vld, h1, h2], (Below.refl _ _).alloc (Nat.le_refl _) _⟩
  · have e1 : (decide (1 ≤ F) && decide (F ≤ 60)) = false := by simp; omega
    go_enter Try.func15, Try.ntmps15
    go_wp2_with (go_at_call 48; refine (in_any _ _ _ _).mono ?_; rintro e w' ⟨rfl, rfl⟩; try rw [e1])
    go_ret
    exact ⟨by simp [vld]; omega, (Below.refl _ _).alloc (Nat.le_refl _) _⟩

theorem ah_b (F S t : Int) (hF : 1 ≤ F) (hF2 : F ≤ 60) (hS : 0 ≤ S) (hS2 : S ≤ F) (ht : 0 ≤ t) : 0 ≤ t / F ∧ t / F ≤ t ∧ 0 ≤ t % F ∧ t % F < F ∧ 0 ≤ t / F * (F - S) ∧ t / F * (F - S) ≤ t * 60 := by
  have h1 : 0 ≤ t / F := Int.ediv_nonneg ht (by omega)
  have h2 : t / F ≤ t := Int.ediv_le_self _ ht
  have h3 := Int.emod_nonneg t (b := F) (by omega)
  have h4 := Int.emod_lt_of_pos t (b := F) (by omega)
  have h5 : 0 ≤ t / F * (F - S) := Int.mul_nonneg h1 (by omega)
  have h6 : t / F * (F - S) ≤ t * 60 := Int.mul_le_mul h2 (by omega) (by omega) ht
  omega
theorem ah_bd (F S t : Int) (hF : 1 ≤ F) (hF2 : F ≤ 60) (hS : 0 ≤ S) (hS2 : S ≤ F) (ht : 0 ≤ t) : 0 ≤ ah F S t ∧ ah F S t ≤ t * 60 + 60 := by
  have := ah_b F S t hF hF2 hS hS2 ht
  unfold ah; omega

theorem rahead_any (F S t : Int) (w : World) (hF : 1 ≤ F) (hF2 : F ≤ 60) (hS : 0 ≤ S) (hS2 : S ≤ F) (ht : 0 ≤ t) (ht2 : t ≤ 100000000000) :
    Calls Try.prog 56 #[.agg #[.int .i64 F, .int .i64 S], .int .i64 t] w fun e w' => e = .returned (.int .i64 (ah F S t)) ∧ Below w.heap.size w w' := by
  obtain ⟨b1, b2, b3, b4, b5, b6⟩ := ah_b F S t hF hF2 hS hS2 ht
  go_enter Try.func56, Try.ntmps56
  go_wp2
  go_quiet (fail)
  go_wp2
  all_goals go_ret
  all_goals refine ⟨ret_i ?_, Below.drewN ((Below.refl _ _).alloc (Nat.le_refl _) _) _⟩
  all_goals simp only [ah]
  all_goals omega

theorem pl_b (F S n : Int) (hF2 : F ≤ 60) (hS : 0 ≤ S) (hS2 : S < F) (hn : 1 ≤ n) :
    0 ≤ (n - 1) / (F - S) ∧ (n - 1) / (F - S) ≤ n ∧ 0 ≤ (n - 1) % (F - S) ∧ (n - 1) % (F - S) < F - S ∧ 0 ≤ (n - 1) / (F - S) * F ∧ (n - 1) / (F - S) * F ≤ n * 60 ∧ 0 ≤ (n - 1) / (F - S) * (F - S) ∧ (n - 1) / (F - S) * (F - S) ≤ n * 60 ∧ (n - 1) / (F - S) * (F - S) + (n - 1) % (F - S) = n - 1 := by
  have h1 : 0 ≤ (n - 1) / (F - S) := Int.ediv_nonneg (by omega) (by omega)
  have h2 : (n - 1) / (F - S) ≤ n - 1 := Int.ediv_le_self _ (by omega)
  have h3 := Int.emod_nonneg (n - 1) (b := F - S) (by omega)
  have h4 := Int.emod_lt_of_pos (n - 1) (b := F - S) (by omega)
  have h5 : 0 ≤ (n - 1) / (F - S) * F := Int.mul_nonneg h1 (by omega)
  have h6 : (n - 1) / (F - S) * F ≤ n * 60 := Int.mul_le_mul (by omega) hF2 (by omega) (by omega)
  have h7 : 0 ≤ (n - 1) / (F - S) * (F - S) := Int.mul_nonneg h1 (by omega)
  have h8 : (n - 1) / (F - S) * (F - S) ≤ n * 60 := Int.mul_le_mul (by omega) (by omega) (by omega) (by omega)
  have h9 := Int.mul_ediv_add_emod (n - 1) (F - S)
  rw [Int.mul_comm] at h9
  exact ⟨h1, by omega, h3, h4, h5, h6, h7, h8, h9⟩
theorem pl_bd (F S n : Int) (hF2 : F ≤ 60) (hS : 0 ≤ S) (hS2 : S < F) (hn : 1 ≤ n) : 0 ≤ pl F S n ∧ pl F S n ≤ n * 60 + 200 := by
  have := pl_b F S n hF2 hS hS2 hn
  unfold pl; omega

theorem rwhen_any (F S t n : Int) (w : World) (hF : 1 ≤ F) (hF2 : F ≤ 60) (hS : 0 ≤ S) (hS2 : S < F) (ht : 0 ≤ t) (ht2 : t ≤ 1000000) (hn : 1 ≤ n) (hn2 : n ≤ 2000000000) :
    Calls Try.prog 57 #[.agg #[.int .i64 F, .int .i64 S], .int .i64 t, .int .i64 n] w fun e w' => e = .returned (.int .i64 (pl F S (ah F S t + n))) ∧ Below w.heap.size w w' := by
  have b0 := ah_bd F S t hF hF2 hS (by omega) ht
  obtain ⟨b1, b2, b3, b4, b5, b6, b7, b8, b9⟩ := pl_b F S (ah F S t + n) hF2 hS hS2 (by omega)
  have B9 := hide b9
  clear b9
  go_enter Try.func57, Try.ntmps57
  go_wp2_with (go_at_call 56; refine (rahead_any _ _ _ _ hF hF2 hS (by omega) ht (by omega)).mono ?_; rintro e w1 ⟨rfl, hb1⟩; obtain ⟨hc1, hf1⟩ := bcell hb1)
  go_ret
  refine ⟨ret_i ?_, ((Below.refl _ _).alloc (Nat.le_refl _) _).trans (hb1.mono (by simp))⟩
  have b9 := B9.out
  simp only [pl]
  omega

theorem rprogram_ok (F S t : Int) (w : World) (hv : vld F S = true) (ht : 0 ≤ t) (ht2 : t ≤ 1000000) :
    Calls Try.prog 21 #[.agg #[.int .i64 F, .int .i64 S], .int .i64 t] w fun e w' => e = .returned (.tuple #[.bool (decide (S ≤ t % F)), .int .i64 0]) ∧ Below w.heap.size w w' := by
  obtain ⟨h1, h2, h3, h4⟩ := vld_t hv
  have Hv := hide hv
  clear hv
  have ew : (decide (0 ≤ t) && decide (t ≤ 1000000)) = true := by simp; omega
  go_enter Try.func21, Try.ntmps21
  go_wp2_with (first
    | (go_at_call 15; refine (rvalid_any _ _ _).mono ?_; rintro e w1 ⟨rfl, hb1⟩; rw [Hv.out]; obtain ⟨hc1, hf1⟩ := bcell hb1)
    | (go_at_call 48; refine (in_any _ _ _ _).mono ?_; rintro e w2 ⟨rfl, rfl⟩; rw [ew]))
  have s0 : w1.cell? ⟨w.heap.size, 0, none⟩ = some (.int .i64 F) := by rw [hc1 _ _ (by simp)]; simp
  have s1 : w1.cell? ⟨w.heap.size, 1, none⟩ = some (.int .i64 S) := by rw [hc1 _ _ (by simp)]; simp
  clear hc1 hf1 ew
  go_quiet (fail)
  go_wp2
  go_ret2
  exact ⟨rfl, Below.drewN (((Below.refl _ _).alloc (Nat.le_refl _) _).trans (hb1.mono (by simp))) _⟩

theorem rprogram_no (F S t : Int) (w : World) (hv : (vld F S && decide (0 ≤ t) && decide (t ≤ 1000000)) = false) :
    Calls Try.prog 21 #[.agg #[.int .i64 F, .int .i64 S], .int .i64 t] w fun e w' => e = .returned (.tuple #[.bool false, .int .i64 1]) ∧ Below w.heap.size w w' := by
  by_cases hh : vld F S = true
  · have Hv := hide hh
    have ew : (decide (0 ≤ t) && decide (t ≤ 1000000)) = false := by rw [hh] at hv; simpa using hv
    clear hv hh
    go_enter Try.func21, Try.ntmps21
    go_wp2_with (first
      | (go_at_call 15; refine (rvalid_any _ _ _).mono ?_; rintro e w1 ⟨rfl, hb1⟩; rw [Hv.out]; obtain ⟨hc1, hf1⟩ := bcell hb1)
      | (go_at_call 48; refine (in_any _ _ _ _).mono ?_; rintro e w2 ⟨rfl, rfl⟩; rw [ew]))
    go_ret2
    exact ⟨rfl, ((Below.refl _ _).alloc (Nat.le_refl _) _).trans (hb1.mono (by simp))⟩
  · have Hv := hide (Bool.eq_false_iff.2 hh)
    clear hv hh
    go_enter Try.func21, Try.ntmps21
    go_wp2_with (go_at_call 15; refine (rvalid_any _ _ _).mono ?_; rintro e w1 ⟨rfl, hb1⟩; rw [Hv.out]; obtain ⟨hc1, hf1⟩ := bcell hb1)
    go_ret2
    exact ⟨rfl, ((Below.refl _ _).alloc (Nat.le_refl _) _).trans (hb1.mono (by simp))⟩

theorem rwhen_no (F S a n : Int) (w : World) (hv : (vld F S && (decide (0 ≤ a) && decide (a ≤ 1000000)) && (decide (0 ≤ n) && decide (n ≤ 1000000000))) = false) :
    Calls Try.prog 26 #[.agg #[.int .i64 F, .int .i64 S], .int .i64 a, .int .i64 n] w fun e w' => e = .returned (.tuple #[.int .i64 0, .int .i64 1]) ∧ Below w.heap.size w w' := by
  by_cases hh : vld F S = true
  · have Hv := hide hh
    rw [hh, Bool.true_and] at hv
    clear hh
    by_cases c1 : (decide (0 ≤ a) && decide (a ≤ 1000000)) = true
    · have c2 : (decide (0 ≤ n) && decide (n ≤ 1000000000)) = false := by rw [c1, Bool.true_and] at hv; exact hv
      have C1 := hide c1
      have C2 := hide c2
      clear hv c1 c2
      go_enter Try.func26, Try.ntmps26
      go_wp2_with (first
        | (go_at_call 15; refine (rvalid_any _ _ _).mono ?_; rintro e w1 ⟨rfl, hb1⟩; rw [Hv.out]; obtain ⟨hc1, hf1⟩ := bcell hb1)
        | (go_at_call 48; refine (in_any _ _ _ _).mono ?_; rintro e w2 ⟨rfl, rfl⟩; first | rw [C1.out] | rw [C2.out]))
      go_ret2
      exact ⟨rfl, ((Below.refl _ _).alloc (Nat.le_refl _) _).trans (hb1.mono (by simp))⟩
    · have C1 := hide (Bool.eq_false_iff.2 c1)
      clear hv c1
      go_enter Try.func26, Try.ntmps26
      go_wp2_with (first
        | (go_at_call 15; refine (rvalid_any _ _ _).mono ?_; rintro e w1 ⟨rfl, hb1⟩; rw [Hv.out]; obtain ⟨hc1, hf1⟩ := bcell hb1)
        | (go_at_call 48; refine (in_any _ _ _ _).mono ?_; rintro e w2 ⟨rfl, rfl⟩; rw [C1.out]))
      go_ret2
      exact ⟨rfl, ((Below.refl _ _).alloc (Nat.le_refl _) _).trans (hb1.mono (by simp))⟩
  · have Hv := hide (Bool.eq_false_iff.2 hh)
    clear hv hh
    go_enter Try.func26, Try.ntmps26
    go_wp2_with (go_at_call 15; refine (rvalid_any _ _ _).mono ?_; rintro e w1 ⟨rfl, hb1⟩; rw [Hv.out]; obtain ⟨hc1, hf1⟩ := bcell hb1)
    go_ret2
    exact ⟨rfl, ((Below.refl _ _).alloc (Nat.le_refl _) _).trans (hb1.mono (by simp))⟩
theorem rbetween_no (F S a n : Int) (w : World) (hv : (vld F S && (decide (0 ≤ a) && decide (a ≤ 1000000)) && (decide (a ≤ n) && decide (n ≤ 1000000))) = false) :
    Calls Try.prog 22 #[.agg #[.int .i64 F, .int .i64 S], .int .i64 a, .int .i64 n] w fun e w' => e = .returned (.tuple #[.int .i64 0, .int .i64 1]) ∧ Below w.heap.size w w' := by
  by_cases hh : vld F S = true
  · have Hv := hide hh
    rw [hh, Bool.true_and] at hv
    clear hh
    by_cases c1 : (decide (0 ≤ a) && decide (a ≤ 1000000)) = true
    · have c2 : (decide (a ≤ n) && decide (n ≤ 1000000)) = false := by rw [c1, Bool.true_and] at hv; exact hv
      have C1 := hide c1
      have C2 := hide c2
      clear hv c1 c2
      go_enter Try.func22, Try.ntmps22
      go_wp2_with (first
        | (go_at_call 15; refine (rvalid_any _ _ _).mono ?_; rintro e w1 ⟨rfl, hb1⟩; rw [Hv.out]; obtain ⟨hc1, hf1⟩ := bcell hb1)
        | (go_at_call 48; refine (in_any _ _ _ _).mono ?_; rintro e w2 ⟨rfl, rfl⟩; first | rw [C1.out] | rw [C2.out]))
      go_ret2
      exact ⟨rfl, ((Below.refl _ _).alloc (Nat.le_refl _) _).trans (hb1.mono (by simp))⟩
    · have C1 := hide (Bool.eq_false_iff.2 c1)
      clear hv c1
      go_enter Try.func22, Try.ntmps22
      go_wp2_with (first
        | (go_at_call 15; refine (rvalid_any _ _ _).mono ?_; rintro e w1 ⟨rfl, hb1⟩; rw [Hv.out]; obtain ⟨hc1, hf1⟩ := bcell hb1)
        | (go_at_call 48; refine (in_any _ _ _ _).mono ?_; rintro e w2 ⟨rfl, rfl⟩; rw [C1.out]))
      go_ret2
      exact ⟨rfl, ((Below.refl _ _).alloc (Nat.le_refl _) _).trans (hb1.mono (by simp))⟩
  · have Hv := hide (Bool.eq_false_iff.2 hh)
    clear hv hh
    go_enter Try.func22, Try.ntmps22
    go_wp2_with (go_at_call 15; refine (rvalid_any _ _ _).mono ?_; rintro e w1 ⟨rfl, hb1⟩; rw [Hv.out]; obtain ⟨hc1, hf1⟩ := bcell hb1)
    go_ret2
    exact ⟨rfl, ((Below.refl _ _).alloc (Nat.le_refl _) _).trans (hb1.mono (by simp))⟩

theorem rbetween_ok (F S a b : Int) (w : World) (hv : vld F S = true) (ha : 0 ≤ a) (hab : a ≤ b) (hb : b ≤ 1000000) :
    Calls Try.prog 22 #[.agg #[.int .i64 F, .int .i64 S], .int .i64 a, .int .i64 b] w fun e w' => e = .returned (.tuple #[.int .i64 (ah F S b - ah F S a), .int .i64 0]) ∧ Below w.heap.size w w' := by
  obtain ⟨h1, h2, h3, h4⟩ := vld_t hv
  have Hv := hide hv
  clear hv
  have E1 := hide (show (decide (0 ≤ a) && decide (a ≤ 1000000)) = true by simp; omega)
  have E2 := hide (show (decide (a ≤ b) && decide (b ≤ 1000000)) = true by simp; omega)
  have b1 := ah_bd F S a h1 h2 h3 (by omega) ha
  have b2 := ah_bd F S b h1 h2 h3 (by omega) (by omega)
  go_enter Try.func22, Try.ntmps22
  go_wp2_with (first
    | (go_at_call 15; refine (rvalid_any _ _ _).mono ?_; rintro e w1 ⟨rfl, hb1⟩; rw [Hv.out]; obtain ⟨hc1, hf1⟩ := bcell hb1)
    | (go_at_call 48; refine (in_any _ _ _ _).mono ?_; rintro e w2 ⟨rfl, rfl⟩; first | rw [E1.out] | rw [E2.out]))
  have k0 := cell_regrown (show w1.cell? ⟨w.heap.size, 0, none⟩ = some (.int .i64 F) by rw [hc1 _ _ (by simp)]; simp)
  have k1 := cell_regrown (show w1.cell? ⟨w.heap.size, 1, none⟩ = some (.int .i64 S) by rw [hc1 _ _ (by simp)]; simp)
  clear hc1 hf1
  have q1 : ∀ d os, Calls Try.prog 56 #[.agg #[.int .i64 F, .int .i64 S], .int .i64 b] (grow (redrawn w1 d) os) fun e w'' => e = .returned (.int .i64 (ah F S b)) ∧ ∃ p : Regrown, w'' = grow (redrawn w1 p.d) p.os :=
    fun d os => Calls.regrown_of (rahead_any F S b _ h1 h2 h3 (by omega) (by omega) (by omega))
  have q2 : ∀ d os, Calls Try.prog 56 #[.agg #[.int .i64 F, .int .i64 S], .int .i64 a] (grow (redrawn w1 d) os) fun e w'' => e = .returned (.int .i64 (ah F S a)) ∧ ∃ p : Regrown, w'' = grow (redrawn w1 p.d) p.os :=
    fun d os => Calls.regrown_of (rahead_any F S a _ h1 h2 h3 (by omega) (by omega) (by omega))
  refine wp_region_quiet_below mixed (by kernel_rfl) ?_
  repeat (go_big_quiet_step (first | with_reducible exact q1 _ _ | with_reducible exact q2 _ _))
  refine wpQuiet_nil ?_
  intro _ hw'
  obtain ⟨⟨dq, osq⟩, hw''⟩ := hw'
  subst hw''
  go_wp2
  go_ret2
  exact ⟨rfl, ((Below.refl _ _).alloc (Nat.le_refl _) _).trans (hb1.mono (by simp)) |>.trans ((below_regrown w1 dq osq).mono (by have := hb1.size; simp at this; omega))⟩

theorem rwhen_ok (F S a n : Int) (w : World) (hv : vld F S = true) (ha : 0 ≤ a) (ha2 : a ≤ 1000000) (hn : 0 ≤ n) (hn2 : n ≤ 1000000000) :
    Calls Try.prog 26 #[.agg #[.int .i64 F, .int .i64 S], .int .i64 a, .int .i64 n] w fun e w' => e = .returned (.tuple #[.int .i64 (wn F S a n), .int .i64 0]) ∧ Below w.heap.size w w' := by
  obtain ⟨h1, h2, h3, h4⟩ := vld_t hv
  have Hv := hide hv
  clear hv
  have E1 := hide (show (decide (0 ≤ a) && decide (a ≤ 1000000)) = true by simp; omega)
  have E2 := hide (show (decide (0 ≤ n) && decide (n ≤ 1000000000)) = true by simp; omega)
  by_cases h0 : n = 0
  · have e0 : (n == 0) = true := by simpa using h0
    have H0 := hide h0
    clear h0
    go_enter Try.func26, Try.ntmps26
    go_wp2_with (first
      | (go_at_call 15; refine (rvalid_any _ _ _).mono ?_; rintro e w1 ⟨rfl, hb1⟩; rw [Hv.out]; obtain ⟨hc1, hf1⟩ := bcell hb1)
      | (go_at_call 48; refine (in_any _ _ _ _).mono ?_; rintro e w2 ⟨rfl, rfl⟩; first | rw [E1.out] | rw [E2.out]))
    go_ret2
    exact ⟨ret2_i (by simp [wn, H0.out]) rfl, ((Below.refl _ _).alloc (Nat.le_refl _) _).trans (hb1.mono (by simp))⟩
  · have e0 : (n == 0) = false := by simpa using h0
    have h0' : 1 ≤ n := by omega
    have H0 := hide h0
    clear h0
    go_enter Try.func26, Try.ntmps26
    go_wp2_with (first
      | (go_at_call 15; refine (rvalid_any _ _ _).mono ?_; rintro e w1 ⟨rfl, hb1⟩; rw [Hv.out]; obtain ⟨hc1, hf1⟩ := bcell hb1)
      | (go_at_call 48; refine (in_any _ _ _ _).mono ?_; rintro e w2 ⟨rfl, rfl⟩; first | rw [E1.out] | rw [E2.out])
      | (go_at_call 57; refine (rwhen_any _ _ _ _ _ h1 h2 h3 (by omega) ha ha2 h0' (by omega)).mono ?_; rintro e w3 ⟨rfl, hb3⟩))
    go_ret2
    exact ⟨ret2_i (by simp [wn, H0.out]) rfl, ((Below.refl _ _).alloc (Nat.le_refl _) _).trans (hb1.mono (by simp)) |>.trans (hb3.mono (by have := hb1.size; simp at this; omega))⟩
end Go.Proofs.Ythiogahpoebamaa
