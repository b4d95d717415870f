/- Contracts of Fixed, FromFixed and MulFixed, of the program and of the reference. -/
import Derived.Test.YtlcgfhliaalccaaRJ
set_option linter.unusedVariables false
set_option linter.unusedSimpArgs false
namespace Go.Proofs.Ytlcgfhliaalccaa
open Go.RowKit Go.Sort Rt
namespace Rc

theorem pla_no {p : Int} (h : pla p = false) : p < 0 ∨ (0 ≤ p ∧ 9 < p) := by
  unfold pla at h; simp only [Bool.and_eq_false_iff, decide_eq_false_iff_not] at h; omega
theorem pw_p {p : Int} (h : pla p = true) : 1 ≤ pw p.toNat ∧ pw p.toNat ≤ 1000000000 := by
  obtain ⟨h0, h9⟩ := pla_t h
  exact pw_bd _ (by omega)
theorem mul_bd (a b A B : Int) (ha : -A ≤ a ∧ a ≤ A) (hb : -B ≤ b ∧ b ≤ B) : -(A * B) ≤ a * b ∧ a * b ≤ A * B := by
  have h : (a * b).natAbs ≤ (A * B).natAbs := by
    rw [Int.natAbs_mul, Int.natAbs_mul]
    exact Nat.mul_le_mul (by omega) (by omega)
  have hAB : 0 ≤ A * B := Int.mul_nonneg (by omega) (by omega)
  omega
theorem fix_bd {n d p : Int} (hv : val n d = true) (hp : pla p = true) : -2000000000000000000 ≤ 2 * n * pw p.toNat ∧ 2 * n * pw p.toNat ≤ 2000000000000000000 := by
  obtain ⟨x1, x2, x3, x4⟩ := val_bd hv
  obtain ⟨y1, y2⟩ := pw_p hp
  have := mul_bd (2 * n) (pw p.toNat) 2000000000 1000000000 (by omega) (by omega)
  omega
theorem mfx_bd {a b : Int} (ha : isw a = true) (hb : isw b = true) : -5000000000000000000 ≤ a * b ∧ a * b ≤ 5000000000000000000 := by
  have h1 := isw_t ha
  have h2 := isw_t hb
  have := mul_bd a b 2147483648 2147483648 (by omega) (by omega)
  omega

theorem Fixed_any (n d p : Int) (w : World) :
    Calls Try.prog 36 #[.agg #[.int .i64 n, .int .i64 d], .int .i64 p] w fun e' w' => e' = .returned (.tuple #[.int .i64 (fix n d p).v, .int .i64 (fix n d p).e]) ∧ Below w.heap.size w w' := by
  cases hv : val n d
  · have HE := hide (show fix n d p = ⟨0, 1⟩ by unfold fix; rw [hv]; rfl)
    have HV := hide hv
    clear hv
    go_enter Try.func36, Try.ntmps36
    go_wp2_with fail
    refine (valid_any n d _).mono ?_
    rintro e w1 ⟨rfl, hb⟩
    rw [HV.out]
    have hz1 : w.heap.size + 1 ≤ w1.heap.size := by have := hb.size; (try simp at this); omega
    have d0_0 : w1.cell? ⟨w.heap.size, 0, none⟩ = some (.int .i64 n) := by rw [hb.cell (by (try simp); (try omega))]; simp
    have d0_1 : w1.cell? ⟨w.heap.size, 1, none⟩ = some (.int .i64 d) := by rw [hb.cell (by (try simp); (try omega))]; simp
    have c0_0 := d0_0
    clear d0_0
    have c0_1 := d0_1
    clear d0_1
    have l0 : w.heap.size < w1.heap.size := by omega
    have e0 : w.heap.size ≤ w1.heap.size := by omega
    have hw1 : Below w.heap.size w w1 := Below.trans (by go_grown) (hb.mono (by (try simp); (try omega)))
    clear hb
    go_wp2_with fail
    go_ret2
    exact ⟨ret2_i (by rw [HE.out]) (by rw [HE.out]), by go_grown⟩
  · cases hp : pla p
    · have HE := hide (show fix n d p = ⟨0, 1⟩ by unfold fix; rw [hv, hp]; rfl)
      have HV := hide hv
      have HP := hide (show (decide (0 ≤ p) && decide (p ≤ 9)) = false from hp)
      clear hv hp
      go_enter Try.func36, Try.ntmps36
      go_wp2_with fail
      refine (valid_any n d _).mono ?_
      rintro e w1 ⟨rfl, hb⟩
      rw [HV.out]
      have hz1 : w.heap.size + 1 ≤ w1.heap.size := by have := hb.size; (try simp at this); omega
      have d0_0 : w1.cell? ⟨w.heap.size, 0, none⟩ = some (.int .i64 n) := by rw [hb.cell (by (try simp); (try omega))]; simp
      have d0_1 : w1.cell? ⟨w.heap.size, 1, none⟩ = some (.int .i64 d) := by rw [hb.cell (by (try simp); (try omega))]; simp
      have c0_0 := d0_0
      clear d0_0
      have c0_1 := d0_1
      clear d0_1
      have l0 : w.heap.size < w1.heap.size := by omega
      have e0 : w.heap.size ≤ w1.heap.size := by omega
      have hw1 : Below w.heap.size w w1 := Below.trans (by go_grown) (hb.mono (by (try simp); (try omega)))
      clear hb
      go_wp2_with fail
      refine (within_any _ _ _ _).mono ?_
      rintro e ws ⟨rfl, rfl⟩
      rw [HP.out]
      go_wp2_with fail
      go_ret2
      exact ⟨ret2_i (by rw [HE.out]) (by rw [HE.out]), by go_grown⟩
    · have b1 := fix_bd hv hp
      obtain ⟨x1, x2, x3, x4⟩ := val_bd hv
      obtain ⟨p1, p2⟩ := pla_t hp
      have HE := hide (show fix n d p = wrd ((2 * n * pw p.toNat + d) / (2 * d)) by unfold fix; rw [hv, hp]; rfl)
      have HV := hide hv
      have HP := hide (show (decide (0 ≤ p) && decide (p ≤ 9)) = true from hp)
      clear hp hv
      go_enter Try.func36, Try.ntmps36
      go_wp2_with fail
      refine (valid_any n d _).mono ?_
      rintro e w1 ⟨rfl, hb⟩
      rw [HV.out]
      have hz1 : w.heap.size + 1 ≤ w1.heap.size := by have := hb.size; (try simp at this); omega
      have d0_0 : w1.cell? ⟨w.heap.size, 0, none⟩ = some (.int .i64 n) := by rw [hb.cell (by (try simp); (try omega))]; simp
      have d0_1 : w1.cell? ⟨w.heap.size, 1, none⟩ = some (.int .i64 d) := by rw [hb.cell (by (try simp); (try omega))]; simp
      have c0_0 := d0_0
      clear d0_0
      have c0_1 := d0_1
      clear d0_1
      have l0 : w.heap.size < w1.heap.size := by omega
      have e0 : w.heap.size ≤ w1.heap.size := by omega
      have hw1 : Below w.heap.size w w1 := Below.trans (by go_grown) (hb.mono (by (try simp); (try omega)))
      clear hb
      go_wp2_with fail
      refine (within_any _ _ _ _).mono ?_
      rintro e ws ⟨rfl, rfl⟩
      rw [HP.out]
      go_wp2_with fail
      refine at_world (fun X => X.cell? ⟨w.heap.size, 0, none⟩ = some (.int .i64 n) ∧ X.cell? ⟨w.heap.size, 1, none⟩ = some (.int .i64 d) ∧ Below w.heap.size w X ∧ w1.heap.size + 0 ≤ X.heap.size) ⟨by first | exact c0_0 | ((repeat rw [cell_past (by (try simp); (try omega))]); exact c0_0) | (simp [cell_past, show w.heap.size < w1.heap.size by omega, c0_0]; done), by first | exact c0_1 | ((repeat rw [cell_past (by (try simp); (try omega))]); exact c0_1) | (simp [cell_past, show w.heap.size < w1.heap.size by omega, c0_1]; done), by go_grown, by simp⟩ (fun w2 hX => ?_)
      clear c0_0 c0_1
      obtain ⟨d0_0, d0_1, hw, hz2⟩ := hX
      have c0_0 := d0_0
      clear d0_0
      have c0_1 := d0_1
      clear d0_1
      clear hw1
      have hw2 := hw
      clear hw
      clear l0 e0
      have l0 : w.heap.size < w2.heap.size := by omega
      have e0 : w.heap.size ≤ w2.heap.size := by omega
      have k0_0 := cell_regrown c0_0
      have k0_1 := cell_regrown c0_1
      have q0 : ∀ dd oo, Calls Try.prog 57 #[.int .i64 p] (grow (redrawn w2 dd) oo) fun e w'' => e = .returned (.int .i64 (pw p.toNat)) ∧ ∃ p : Regrown, w'' = grow (redrawn w2 p.d) p.os := fun dd oo => regrown_same (tens_any p _ p1 p2)
      have Q0 := hide q0
      clear q0
      have q1 : ∀ dd oo, Calls Try.prog 54 #[.int .i64 (2 * n * pw p.toNat + d), .int .i64 (2 * d)] (grow (redrawn w2 dd) oo) fun e w'' => e = .returned (.int .i64 ((2 * n * pw p.toNat + d) / (2 * d))) ∧ ∃ p : Regrown, w'' = grow (redrawn w2 p.d) p.os := fun dd oo => regrown_same (floor_any _ _ _ (by omega) (by omega) (by omega))
      have Q1 := hide q1
      clear q1
      have q2 : ∀ dd oo, Calls Try.prog 56 #[.int .i64 ((2 * n * pw p.toNat + d) / (2 * d))] (grow (redrawn w2 dd) oo) fun e w'' => e = .returned (.tuple #[.int .i64 (wrd ((2 * n * pw p.toNat + d) / (2 * d))).v, .int .i64 (wrd ((2 * n * pw p.toNat + d) / (2 * d))).e]) ∧ ∃ p : Regrown, w'' = grow (redrawn w2 p.d) p.os := fun dd oo => regrown_same (word_any _ _)
      have Q2 := hide q2
      clear q2
      refine wp_region_quiet_below mixed (by kernel_rfl) ?_
      repeat (go_big_quiet_step (first | with_reducible exact Q0.out _ _ | with_reducible exact Q1.out _ _ | with_reducible exact Q2.out _ _))
      refine wpQuiet_nil ?_
      intro _ hw'
      obtain ⟨⟨dq, osq⟩, hw''⟩ := hw'
      subst hw''
      have hb := below_regrown w2 dq osq
      clear k0_0 k0_1 Q0 Q1 Q2
      generalize grow (redrawn w2 dq) osq = w3 at *
      have hz3 : w2.heap.size ≤ w3.heap.size := hb.size
      have d0_0 : w3.cell? ⟨w.heap.size, 0, none⟩ = some (.int .i64 n) := by rw [hb.cell (by (try simp); (try omega))]; first | exact c0_0 | ((repeat rw [cell_past (by (try simp); (try omega))]); exact c0_0) | (simp [cell_past, show w.heap.size < w2.heap.size by omega, c0_0]; done)
      have d0_1 : w3.cell? ⟨w.heap.size, 1, none⟩ = some (.int .i64 d) := by rw [hb.cell (by (try simp); (try omega))]; first | exact c0_1 | ((repeat rw [cell_past (by (try simp); (try omega))]); exact c0_1) | (simp [cell_past, show w.heap.size < w2.heap.size by omega, c0_1]; done)
      clear c0_0 c0_1
      have c0_0 := d0_0
      clear d0_0
      have c0_1 := d0_1
      clear d0_1
      clear l0 e0
      have l0 : w.heap.size < w3.heap.size := by omega
      have e0 : w.heap.size ≤ w3.heap.size := by omega
      have hw3 : Below w.heap.size w w3 := Below.trans hw2 (hb.mono (by omega))
      clear hb hw2
      go_wp2_with fail
      go_ret2
      exact ⟨ret2_i (by rw [HE.out]) (by rw [HE.out]), by go_grown⟩

theorem rFixed_any (n d p : Int) (w : World) :
    Calls Try.prog 37 #[.agg #[.int .i64 n, .int .i64 d], .int .i64 p] w fun e' w' => e' = .returned (.tuple #[.int .i64 (fix n d p).v, .int .i64 (fix n d p).e]) ∧ Below w.heap.size w w' := by
  cases hv : val n d
  · have HE := hide (show fix n d p = ⟨0, 1⟩ by unfold fix; rw [hv]; rfl)
    have HV := hide hv
    clear hv
    go_enter Try.func37, Try.ntmps37
    go_wp2_with fail
    refine (rvalid_any n d _).mono ?_
    rintro e w1 ⟨rfl, hb⟩
    rw [HV.out]
    have hz1 : w.heap.size + 1 ≤ w1.heap.size := by have := hb.size; (try simp at this); omega
    have d0_0 : w1.cell? ⟨w.heap.size, 0, none⟩ = some (.int .i64 n) := by rw [hb.cell (by (try simp); (try omega))]; simp
    have d0_1 : w1.cell? ⟨w.heap.size, 1, none⟩ = some (.int .i64 d) := by rw [hb.cell (by (try simp); (try omega))]; simp
    have c0_0 := d0_0
    clear d0_0
    have c0_1 := d0_1
    clear d0_1
    have l0 : w.heap.size < w1.heap.size := by omega
    have e0 : w.heap.size ≤ w1.heap.size := by omega
    have hw1 : Below w.heap.size w w1 := Below.trans (by go_grown) (hb.mono (by (try simp); (try omega)))
    clear hb
    go_wp2_with fail
    go_ret2
    exact ⟨ret2_i (by rw [HE.out]) (by rw [HE.out]), by go_grown⟩
  · cases hp : pla p
    · have HE := hide (show fix n d p = ⟨0, 1⟩ by unfold fix; rw [hv, hp]; rfl)
      have HV := hide hv
      clear hv
      rcases pla_no hp with h | h
      · clear hp
        go_enter Try.func37, Try.ntmps37
        go_wp2_with fail
        refine (rvalid_any n d _).mono ?_
        rintro e w1 ⟨rfl, hb⟩
        rw [HV.out]
        have hz1 : w.heap.size + 1 ≤ w1.heap.size := by have := hb.size; (try simp at this); omega
        have d0_0 : w1.cell? ⟨w.heap.size, 0, none⟩ = some (.int .i64 n) := by rw [hb.cell (by (try simp); (try omega))]; simp
        have d0_1 : w1.cell? ⟨w.heap.size, 1, none⟩ = some (.int .i64 d) := by rw [hb.cell (by (try simp); (try omega))]; simp
        have c0_0 := d0_0
        clear d0_0
        have c0_1 := d0_1
        clear d0_1
        have l0 : w.heap.size < w1.heap.size := by omega
        have e0 : w.heap.size ≤ w1.heap.size := by omega
        have hw1 : Below w.heap.size w w1 := Below.trans (by go_grown) (hb.mono (by (try simp); (try omega)))
        clear hb
        go_wp2_with fail
        go_ret2
        exact ⟨ret2_i (by rw [HE.out]) (by rw [HE.out]), by go_grown⟩
      · clear hp
        go_enter Try.func37, Try.ntmps37
        go_wp2_with fail
        refine (rvalid_any n d _).mono ?_
        rintro e w1 ⟨rfl, hb⟩
        rw [HV.out]
        have hz1 : w.heap.size + 1 ≤ w1.heap.size := by have := hb.size; (try simp at this); omega
        have d0_0 : w1.cell? ⟨w.heap.size, 0, none⟩ = some (.int .i64 n) := by rw [hb.cell (by (try simp); (try omega))]; simp
        have d0_1 : w1.cell? ⟨w.heap.size, 1, none⟩ = some (.int .i64 d) := by rw [hb.cell (by (try simp); (try omega))]; simp
        have c0_0 := d0_0
        clear d0_0
        have c0_1 := d0_1
        clear d0_1
        have l0 : w.heap.size < w1.heap.size := by omega
        have e0 : w.heap.size ≤ w1.heap.size := by omega
        have hw1 : Below w.heap.size w w1 := Below.trans (by go_grown) (hb.mono (by (try simp); (try omega)))
        clear hb
        go_wp2_with fail
        go_ret2
        exact ⟨ret2_i (by rw [HE.out]) (by rw [HE.out]), by go_grown⟩
    · have b1 := fix_bd hv hp
      obtain ⟨x1, x2, x3, x4⟩ := val_bd hv
      obtain ⟨p1, p2⟩ := pla_t hp
      have HE := hide (show fix n d p = wrd ((2 * n * pw p.toNat + d) / (2 * d)) by unfold fix; rw [hv, hp]; rfl)
      have HV := hide hv
      have HP := hide (show (decide (0 ≤ p) && decide (p ≤ 9)) = true from hp)
      cases hw : isw ((2 * n * pw p.toNat + d) / (2 * d))
      · have HW := hide hw
        rw [show wrd ((2 * n * pw p.toNat + d) / (2 * d)) = ⟨0, 6⟩ by unfold wrd; rw [hw]; rfl] at HE
        clear hw
        clear hp hv
        go_enter Try.func37, Try.ntmps37
        go_wp2_with fail
        refine (rvalid_any n d _).mono ?_
        rintro e w1 ⟨rfl, hb⟩
        rw [HV.out]
        have hz1 : w.heap.size + 1 ≤ w1.heap.size := by have := hb.size; (try simp at this); omega
        have d0_0 : w1.cell? ⟨w.heap.size, 0, none⟩ = some (.int .i64 n) := by rw [hb.cell (by (try simp); (try omega))]; simp
        have d0_1 : w1.cell? ⟨w.heap.size, 1, none⟩ = some (.int .i64 d) := by rw [hb.cell (by (try simp); (try omega))]; simp
        have c0_0 := d0_0
        clear d0_0
        have c0_1 := d0_1
        clear d0_1
        have l0 : w.heap.size < w1.heap.size := by omega
        have e0 : w.heap.size ≤ w1.heap.size := by omega
        have hw1 : Below w.heap.size w w1 := Below.trans (by go_grown) (hb.mono (by (try simp); (try omega)))
        clear hb
        go_wp2_with fail
        refine at_world (fun X => X.cell? ⟨w.heap.size, 0, none⟩ = some (.int .i64 n) ∧ X.cell? ⟨w.heap.size, 1, none⟩ = some (.int .i64 d) ∧ Below w.heap.size w X ∧ w1.heap.size + 0 ≤ X.heap.size) ⟨by first | exact c0_0 | ((repeat rw [cell_past (by (try simp); (try omega))]); exact c0_0) | (simp [cell_past, show w.heap.size < w1.heap.size by omega, c0_0]; done), by first | exact c0_1 | ((repeat rw [cell_past (by (try simp); (try omega))]); exact c0_1) | (simp [cell_past, show w.heap.size < w1.heap.size by omega, c0_1]; done), by go_grown, by simp⟩ (fun w2 hX => ?_)
        clear c0_0 c0_1
        obtain ⟨d0_0, d0_1, hw, hz2⟩ := hX
        have c0_0 := d0_0
        clear d0_0
        have c0_1 := d0_1
        clear d0_1
        clear hw1
        have hw2 := hw
        clear hw
        clear l0 e0
        have l0 : w.heap.size < w2.heap.size := by omega
        have e0 : w.heap.size ≤ w2.heap.size := by omega
        have k0_0 := cell_regrown c0_0
        have k0_1 := cell_regrown c0_1
        have q0 : ∀ dd oo, Calls Try.prog 59 #[.int .i64 p] (grow (redrawn w2 dd) oo) fun e w'' => e = .returned (.int .i64 (pw p.toNat)) ∧ ∃ p : Regrown, w'' = grow (redrawn w2 p.d) p.os := fun dd oo => regrown_same (power_any p _ p1 p2)
        have Q0 := hide q0
        clear q0
        have q1 : ∀ dd oo, Calls Try.prog 55 #[.int .i64 (2 * n * pw p.toNat + d), .int .i64 (2 * d)] (grow (redrawn w2 dd) oo) fun e w'' => e = .returned (.int .i64 ((2 * n * pw p.toNat + d) / (2 * d))) ∧ ∃ p : Regrown, w'' = grow (redrawn w2 p.d) p.os := fun dd oo => regrown_same (rfloor_any _ _ _ (by omega) (by omega) (by omega))
        have Q1 := hide q1
        clear q1
        refine wp_region_quiet_below mixed (by kernel_rfl) ?_
        repeat (go_big_quiet_step (first | with_reducible exact Q0.out _ _ | with_reducible exact Q1.out _ _))
        refine wpQuiet_nil ?_
        intro _ hw'
        obtain ⟨⟨dq, osq⟩, hw''⟩ := hw'
        subst hw''
        have hb := below_regrown w2 dq osq
        clear k0_0 k0_1 Q0 Q1
        generalize grow (redrawn w2 dq) osq = w3 at *
        have hz3 : w2.heap.size ≤ w3.heap.size := hb.size
        have d0_0 : w3.cell? ⟨w.heap.size, 0, none⟩ = some (.int .i64 n) := by rw [hb.cell (by (try simp); (try omega))]; first | exact c0_0 | ((repeat rw [cell_past (by (try simp); (try omega))]); exact c0_0) | (simp [cell_past, show w.heap.size < w2.heap.size by omega, c0_0]; done)
        have d0_1 : w3.cell? ⟨w.heap.size, 1, none⟩ = some (.int .i64 d) := by rw [hb.cell (by (try simp); (try omega))]; first | exact c0_1 | ((repeat rw [cell_past (by (try simp); (try omega))]); exact c0_1) | (simp [cell_past, show w.heap.size < w2.heap.size by omega, c0_1]; done)
        clear c0_0 c0_1
        have c0_0 := d0_0
        clear d0_0
        have c0_1 := d0_1
        clear d0_1
        clear l0 e0
        have l0 : w.heap.size < w3.heap.size := by omega
        have e0 : w.heap.size ≤ w3.heap.size := by omega
        have hw3 : Below w.heap.size w w3 := Below.trans hw2 (hb.mono (by omega))
        clear hb hw2
        go_wp2_with fail
        refine (rword_any _ _).mono ?_
        rintro e ws ⟨rfl, rfl⟩
        rw [HW.out]
        go_wp2_with fail
        go_ret2
        exact ⟨ret2_i (by rw [HE.out]) (by rw [HE.out]), by go_grown⟩
      · have HW := hide hw
        rw [show wrd ((2 * n * pw p.toNat + d) / (2 * d)) = ⟨(2 * n * pw p.toNat + d) / (2 * d), 0⟩ by unfold wrd; rw [hw]; rfl] at HE
        clear hw
        clear hp hv
        go_enter Try.func37, Try.ntmps37
        go_wp2_with fail
        refine (rvalid_any n d _).mono ?_
        rintro e w1 ⟨rfl, hb⟩
        rw [HV.out]
        have hz1 : w.heap.size + 1 ≤ w1.heap.size := by have := hb.size; (try simp at this); omega
        have d0_0 : w1.cell? ⟨w.heap.size, 0, none⟩ = some (.int .i64 n) := by rw [hb.cell (by (try simp); (try omega))]; simp
        have d0_1 : w1.cell? ⟨w.heap.size, 1, none⟩ = some (.int .i64 d) := by rw [hb.cell (by (try simp); (try omega))]; simp
        have c0_0 := d0_0
        clear d0_0
        have c0_1 := d0_1
        clear d0_1
        have l0 : w.heap.size < w1.heap.size := by omega
        have e0 : w.heap.size ≤ w1.heap.size := by omega
        have hw1 : Below w.heap.size w w1 := Below.trans (by go_grown) (hb.mono (by (try simp); (try omega)))
        clear hb
        go_wp2_with fail
        refine at_world (fun X => X.cell? ⟨w.heap.size, 0, none⟩ = some (.int .i64 n) ∧ X.cell? ⟨w.heap.size, 1, none⟩ = some (.int .i64 d) ∧ Below w.heap.size w X ∧ w1.heap.size + 0 ≤ X.heap.size) ⟨by first | exact c0_0 | ((repeat rw [cell_past (by (try simp); (try omega))]); exact c0_0) | (simp [cell_past, show w.heap.size < w1.heap.size by omega, c0_0]; done), by first | exact c0_1 | ((repeat rw [cell_past (by (try simp); (try omega))]); exact c0_1) | (simp [cell_past, show w.heap.size < w1.heap.size by omega, c0_1]; done), by go_grown, by simp⟩ (fun w2 hX => ?_)
        clear c0_0 c0_1
        obtain ⟨d0_0, d0_1, hw, hz2⟩ := hX
        have c0_0 := d0_0
        clear d0_0
        have c0_1 := d0_1
        clear d0_1
        clear hw1
        have hw2 := hw
        clear hw
        clear l0 e0
        have l0 : w.heap.size < w2.heap.size := by omega
        have e0 : w.heap.size ≤ w2.heap.size := by omega
        have k0_0 := cell_regrown c0_0
        have k0_1 := cell_regrown c0_1
        have q0 : ∀ dd oo, Calls Try.prog 59 #[.int .i64 p] (grow (redrawn w2 dd) oo) fun e w'' => e = .returned (.int .i64 (pw p.toNat)) ∧ ∃ p : Regrown, w'' = grow (redrawn w2 p.d) p.os := fun dd oo => regrown_same (power_any p _ p1 p2)
        have Q0 := hide q0
        clear q0
        have q1 : ∀ dd oo, Calls Try.prog 55 #[.int .i64 (2 * n * pw p.toNat + d), .int .i64 (2 * d)] (grow (redrawn w2 dd) oo) fun e w'' => e = .returned (.int .i64 ((2 * n * pw p.toNat + d) / (2 * d))) ∧ ∃ p : Regrown, w'' = grow (redrawn w2 p.d) p.os := fun dd oo => regrown_same (rfloor_any _ _ _ (by omega) (by omega) (by omega))
        have Q1 := hide q1
        clear q1
        refine wp_region_quiet_below mixed (by kernel_rfl) ?_
        repeat (go_big_quiet_step (first | with_reducible exact Q0.out _ _ | with_reducible exact Q1.out _ _))
        refine wpQuiet_nil ?_
        intro _ hw'
        obtain ⟨⟨dq, osq⟩, hw''⟩ := hw'
        subst hw''
        have hb := below_regrown w2 dq osq
        clear k0_0 k0_1 Q0 Q1
        generalize grow (redrawn w2 dq) osq = w3 at *
        have hz3 : w2.heap.size ≤ w3.heap.size := hb.size
        have d0_0 : w3.cell? ⟨w.heap.size, 0, none⟩ = some (.int .i64 n) := by rw [hb.cell (by (try simp); (try omega))]; first | exact c0_0 | ((repeat rw [cell_past (by (try simp); (try omega))]); exact c0_0) | (simp [cell_past, show w.heap.size < w2.heap.size by omega, c0_0]; done)
        have d0_1 : w3.cell? ⟨w.heap.size, 1, none⟩ = some (.int .i64 d) := by rw [hb.cell (by (try simp); (try omega))]; first | exact c0_1 | ((repeat rw [cell_past (by (try simp); (try omega))]); exact c0_1) | (simp [cell_past, show w.heap.size < w2.heap.size by omega, c0_1]; done)
        clear c0_0 c0_1
        have c0_0 := d0_0
        clear d0_0
        have c0_1 := d0_1
        clear d0_1
        clear l0 e0
        have l0 : w.heap.size < w3.heap.size := by omega
        have e0 : w.heap.size ≤ w3.heap.size := by omega
        have hw3 : Below w.heap.size w w3 := Below.trans hw2 (hb.mono (by omega))
        clear hb hw2
        go_wp2_with fail
        refine (rword_any _ _).mono ?_
        rintro e ws ⟨rfl, rfl⟩
        rw [HW.out]
        go_wp2_with fail
        go_ret2
        exact ⟨ret2_i (by rw [HE.out]) (by rw [HE.out]), by go_grown⟩

theorem FromFixed_any (n p : Int) (w : World) :
    Calls Try.prog 38 #[.int .i64 n, .int .i64 p] w fun e' w' => e' = .returned (.tuple #[.agg #[.int .i64 (frf n p).n, .int .i64 (frf n p).d], .int .i64 (frf n p).e]) ∧ Below w.heap.size w w' := by
  cases hv : isw n
  · have HE := hide (show frf n p = ⟨0, 0, 1⟩ by unfold frf; rw [hv]; rfl)
    have HV := hide (show (decide (-2147483648 ≤ n) && decide (n ≤ 2147483647)) = false from hv)
    clear hv
    go_enter Try.func38, Try.ntmps38
    go_wp2_with fail
    refine (within_any _ _ _ _).mono ?_
    rintro e ws ⟨rfl, rfl⟩
    rw [HV.out]
    go_wp2_with fail
    refine bodyR3 (n := (frf n p).n) (d := (frf n p).d) (e := (frf n p).e) (by rw [HE.out]; simp [results, Try.results38, go_sem]) rfl rfl rfl rfl ?_
    go_grown
  · cases hp : pla p
    · have HE := hide (show frf n p = ⟨0, 0, 1⟩ by unfold frf; rw [hv, hp]; rfl)
      have HV := hide (show (decide (-2147483648 ≤ n) && decide (n ≤ 2147483647)) = true from hv)
      have HP := hide (show (decide (0 ≤ p) && decide (p ≤ 9)) = false from hp)
      clear hv hp
      go_enter Try.func38, Try.ntmps38
      go_wp2_with fail
      refine (within_any _ _ _ _).mono ?_
      rintro e ws ⟨rfl, rfl⟩
      rw [HV.out]
      go_wp2_with fail
      refine (within_any _ _ _ _).mono ?_
      rintro e ws ⟨rfl, rfl⟩
      rw [HP.out]
      go_wp2_with fail
      refine bodyR3 (n := (frf n p).n) (d := (frf n p).d) (e := (frf n p).e) (by rw [HE.out]; simp [results, Try.results38, go_sem]) rfl rfl rfl rfl ?_
      go_grown
    · obtain ⟨p1, p2⟩ := pla_t hp
      obtain ⟨y1, y2⟩ := pw_p hp
      obtain ⟨n1, n2⟩ := isw_t hv
      have HE := hide (show frf n p = out (rat n (pw p.toNat)) by unfold frf; rw [hv, hp]; rfl)
      have HV := hide (show (decide (-2147483648 ≤ n) && decide (n ≤ 2147483647)) = true from hv)
      have HP := hide (show (decide (0 ≤ p) && decide (p ≤ 9)) = true from hp)
      clear hv hp
      go_enter Try.func38, Try.ntmps38
      go_wp2_with fail
      refine (within_any _ _ _ _).mono ?_
      rintro e ws ⟨rfl, rfl⟩
      rw [HV.out]
      go_wp2_with fail
      refine (within_any _ _ _ _).mono ?_
      rintro e ws ⟨rfl, rfl⟩
      rw [HP.out]
      go_wp2_with fail
      refine (tens_any p _ p1 p2).mono ?_
      rintro e ws ⟨rfl, rfl⟩
      go_wp2_with fail
      refine (low_any _ _ _ (by omega) (by omega) (by omega) (by omega) (by omega)).mono ?_
      rintro _ w2 ⟨rfl, hb⟩
      have a0 : w2.cell? ⟨w.heap.size, 0, none⟩ = some (.int .i64 0) := by rw [hb.cell (by simp)]; simp
      have a1 : w2.cell? ⟨w.heap.size, 1, none⟩ = some (.int .i64 0) := by rw [hb.cell (by simp)]; simp
      have f0 : w2.frozen? ⟨w.heap.size, 0, none⟩ = false := by rw [hb.frozen (by simp)]; simp
      have f1 : w2.frozen? ⟨w.heap.size, 1, none⟩ = false := by rw [hb.frozen (by simp)]; simp
      have hz : w.heap.size < w2.heap.size := by have := hb.size; simp at this; omega
      have hw : Below w.heap.size w w2 := Below.trans (by go_grown) (hb.mono (by simp))
      clear hb
      go_wp2_with fail
      refine bodyR3 (n := (frf n p).n) (d := (frf n p).d) (e := (frf n p).e) (by rw [HE.out]; simp [results, Try.results38, go_sem, a0, a1]) rfl rfl rfl rfl ?_
      go_grown

theorem rFromFixed_any (n p : Int) (w : World) :
    Calls Try.prog 39 #[.int .i64 n, .int .i64 p] w fun e' w' => e' = .returned (.tuple #[.agg #[.int .i64 (frf n p).n, .int .i64 (frf n p).d], .int .i64 (frf n p).e]) ∧ Below w.heap.size w w' := by
  cases hv : isw n
  · have HE := hide (show frf n p = ⟨0, 0, 1⟩ by unfold frf; rw [hv]; rfl)
    have HV := hide hv
    clear hv
    go_enter Try.func39, Try.ntmps39
    go_wp2_with fail
    refine (rword_any _ _).mono ?_
    rintro e ws ⟨rfl, rfl⟩
    rw [HV.out]
    go_wp2_with fail
    refine bodyR3 (n := (frf n p).n) (d := (frf n p).d) (e := (frf n p).e) (by rw [HE.out]; simp [results, Try.results39, go_sem]) rfl rfl rfl rfl ?_
    go_grown
  · cases hp : pla p
    · have HE := hide (show frf n p = ⟨0, 0, 1⟩ by unfold frf; rw [hv, hp]; rfl)
      have HV := hide hv
      clear hv
      rcases pla_no hp with h | h
      · clear hp
        go_enter Try.func39, Try.ntmps39
        go_wp2_with fail
        refine (rword_any _ _).mono ?_
        rintro e ws ⟨rfl, rfl⟩
        rw [HV.out]
        go_wp2_with fail
        refine bodyR3 (n := (frf n p).n) (d := (frf n p).d) (e := (frf n p).e) (by rw [HE.out]; simp [results, Try.results39, go_sem]) rfl rfl rfl rfl ?_
        go_grown
      · clear hp
        go_enter Try.func39, Try.ntmps39
        go_wp2_with fail
        refine (rword_any _ _).mono ?_
        rintro e ws ⟨rfl, rfl⟩
        rw [HV.out]
        go_wp2_with fail
        refine bodyR3 (n := (frf n p).n) (d := (frf n p).d) (e := (frf n p).e) (by rw [HE.out]; simp [results, Try.results39, go_sem]) rfl rfl rfl rfl ?_
        go_grown
    · obtain ⟨p1, p2⟩ := pla_t hp
      obtain ⟨y1, y2⟩ := pw_p hp
      obtain ⟨n1, n2⟩ := isw_t hv
      have HE := hide (show frf n p = out (rat n (pw p.toNat)) by unfold frf; rw [hv, hp]; rfl)
      have HV := hide hv
      have HP := hide (show (decide (0 ≤ p) && decide (p ≤ 9)) = true from hp)
      clear hv hp
      go_enter Try.func39, Try.ntmps39
      go_wp2_with fail
      refine (rword_any _ _).mono ?_
      rintro e ws ⟨rfl, rfl⟩
      rw [HV.out]
      go_wp2_with fail
      refine (power_any p _ p1 p2).mono ?_
      rintro e ws ⟨rfl, rfl⟩
      go_wp2_with fail
      refine (rlow_any _ _ _ (by omega) (by omega) (by omega) (by omega) (by omega)).mono ?_
      rintro _ w2 ⟨rfl, hb⟩
      have a0 : w2.cell? ⟨w.heap.size, 0, none⟩ = some (.int .i64 0) := by rw [hb.cell (by simp)]; simp
      have a1 : w2.cell? ⟨w.heap.size, 1, none⟩ = some (.int .i64 0) := by rw [hb.cell (by simp)]; simp
      have f0 : w2.frozen? ⟨w.heap.size, 0, none⟩ = false := by rw [hb.frozen (by simp)]; simp
      have f1 : w2.frozen? ⟨w.heap.size, 1, none⟩ = false := by rw [hb.frozen (by simp)]; simp
      have hz : w.heap.size < w2.heap.size := by have := hb.size; simp at this; omega
      have hw : Below w.heap.size w w2 := Below.trans (by go_grown) (hb.mono (by simp))
      clear hb
      go_wp2_with fail
      refine bodyR3 (n := (frf n p).n) (d := (frf n p).d) (e := (frf n p).e) (by rw [HE.out]; simp [results, Try.results39, go_sem, a0, a1]) rfl rfl rfl rfl ?_
      go_grown

theorem MulFixed_any (a b p : Int) (w : World) :
    Calls Try.prog 34 #[.int .i64 a, .int .i64 b, .int .i64 p] w fun e' w' => e' = .returned (.tuple #[.int .i64 (mfx a b p).v, .int .i64 (mfx a b p).e]) ∧ w = w' := by
  cases ha : isw a
  · have HE := hide (show mfx a b p = ⟨0, 1⟩ by unfold mfx; rw [ha]; rfl)
    have HA := hide (show (decide (-2147483648 ≤ a) && decide (a ≤ 2147483647)) = false from ha)
    clear ha
    go_enter Try.func34, Try.ntmps34
    go_wp2_with fail
    refine (within_any _ _ _ _).mono ?_
    rintro e ws ⟨rfl, rfl⟩
    rw [HA.out]
    go_wp2_with fail
    go_ret2
    exact ⟨ret2_i (by rw [HE.out]) (by rw [HE.out]), rfl⟩
  · cases hb : isw b
    · have HE := hide (show mfx a b p = ⟨0, 1⟩ by unfold mfx; rw [ha, hb]; rfl)
      have HA := hide (show (decide (-2147483648 ≤ a) && decide (a ≤ 2147483647)) = true from ha)
      have HB := hide (show (decide (-2147483648 ≤ b) && decide (b ≤ 2147483647)) = false from hb)
      clear ha hb
      go_enter Try.func34, Try.ntmps34
      go_wp2_with fail
      refine (within_any _ _ _ _).mono ?_
      rintro e ws ⟨rfl, rfl⟩
      rw [HA.out]
      go_wp2_with fail
      refine (within_any _ _ _ _).mono ?_
      rintro e ws ⟨rfl, rfl⟩
      rw [HB.out]
      go_wp2_with fail
      go_ret2
      exact ⟨ret2_i (by rw [HE.out]) (by rw [HE.out]), rfl⟩
    · cases hp : pla p
      · have HE := hide (show mfx a b p = ⟨0, 1⟩ by unfold mfx; rw [ha, hb, hp]; rfl)
        have HA := hide (show (decide (-2147483648 ≤ a) && decide (a ≤ 2147483647)) = true from ha)
        have HB := hide (show (decide (-2147483648 ≤ b) && decide (b ≤ 2147483647)) = true from hb)
        have HP := hide (show (decide (0 ≤ p) && decide (p ≤ 9)) = false from hp)
        clear ha hb hp
        go_enter Try.func34, Try.ntmps34
        go_wp2_with fail
        refine (within_any _ _ _ _).mono ?_
        rintro e ws ⟨rfl, rfl⟩
        rw [HA.out]
        go_wp2_with fail
        refine (within_any _ _ _ _).mono ?_
        rintro e ws ⟨rfl, rfl⟩
        rw [HB.out]
        go_wp2_with fail
        refine (within_any _ _ _ _).mono ?_
        rintro e ws ⟨rfl, rfl⟩
        rw [HP.out]
        go_wp2_with fail
        go_ret2
        exact ⟨ret2_i (by rw [HE.out]) (by rw [HE.out]), rfl⟩
      · have bb := mfx_bd ha hb
        obtain ⟨p1, p2⟩ := pla_t hp
        obtain ⟨y1, y2⟩ := pw_p hp
        have HE := hide (show mfx a b p = wrd (a * b / pw p.toNat) by unfold mfx; rw [ha, hb, hp]; rfl)
        have HA := hide (show (decide (-2147483648 ≤ a) && decide (a ≤ 2147483647)) = true from ha)
        have HB := hide (show (decide (-2147483648 ≤ b) && decide (b ≤ 2147483647)) = true from hb)
        have HP := hide (show (decide (0 ≤ p) && decide (p ≤ 9)) = true from hp)
        clear ha hb hp
        go_enter Try.func34, Try.ntmps34
        go_wp2_with fail
        refine (within_any _ _ _ _).mono ?_
        rintro e ws ⟨rfl, rfl⟩
        rw [HA.out]
        go_wp2_with fail
        refine (within_any _ _ _ _).mono ?_
        rintro e ws ⟨rfl, rfl⟩
        rw [HB.out]
        go_wp2_with fail
        refine (within_any _ _ _ _).mono ?_
        rintro e ws ⟨rfl, rfl⟩
        rw [HP.out]
        go_wp2_with fail
        refine (tens_any p _ p1 p2).mono ?_
        rintro e ws ⟨rfl, rfl⟩
        go_wp2_with fail
        refine (floor_any _ _ _ (by omega) (by omega) (by omega)).mono ?_
        rintro e ws ⟨rfl, rfl⟩
        go_wp2_with fail
        refine (word_any _ _).mono ?_
        rintro e ws ⟨rfl, rfl⟩
        go_wp2_with fail
        go_ret2
        exact ⟨ret2_i (by rw [HE.out]) (by rw [HE.out]), rfl⟩

theorem rMulFixed_any (a b p : Int) (w : World) :
    Calls Try.prog 35 #[.int .i64 a, .int .i64 b, .int .i64 p] w fun e' w' => e' = .returned (.tuple #[.int .i64 (mfx a b p).v, .int .i64 (mfx a b p).e]) ∧ w = w' := by
  cases ha : isw a
  · have HE := hide (show mfx a b p = ⟨0, 1⟩ by unfold mfx; rw [ha]; rfl)
    have HA := hide ha
    clear ha
    go_enter Try.func35, Try.ntmps35
    go_wp2_with fail
    refine (rword_any _ _).mono ?_
    rintro e ws ⟨rfl, rfl⟩
    rw [HA.out]
    go_wp2_with fail
    go_ret2
    exact ⟨ret2_i (by rw [HE.out]) (by rw [HE.out]), rfl⟩
  · cases hb : isw b
    · have HE := hide (show mfx a b p = ⟨0, 1⟩ by unfold mfx; rw [ha, hb]; rfl)
      have HA := hide ha
      have HB := hide hb
      clear ha hb
      go_enter Try.func35, Try.ntmps35
      go_wp2_with fail
      refine (rword_any _ _).mono ?_
      rintro e ws ⟨rfl, rfl⟩
      rw [HA.out]
      go_wp2_with fail
      refine (rword_any _ _).mono ?_
      rintro e ws ⟨rfl, rfl⟩
      rw [HB.out]
      go_wp2_with fail
      go_ret2
      exact ⟨ret2_i (by rw [HE.out]) (by rw [HE.out]), rfl⟩
    · cases hp : pla p
      · have HE := hide (show mfx a b p = ⟨0, 1⟩ by unfold mfx; rw [ha, hb, hp]; rfl)
        have HA := hide ha
        have HB := hide hb
        clear ha hb
        rcases pla_no hp with h | h
        · clear hp
          go_enter Try.func35, Try.ntmps35
          go_wp2_with fail
          refine (rword_any _ _).mono ?_
          rintro e ws ⟨rfl, rfl⟩
          rw [HA.out]
          go_wp2_with fail
          refine (rword_any _ _).mono ?_
          rintro e ws ⟨rfl, rfl⟩
          rw [HB.out]
          go_wp2_with fail
          go_ret2
          exact ⟨ret2_i (by rw [HE.out]) (by rw [HE.out]), rfl⟩
        · clear hp
          go_enter Try.func35, Try.ntmps35
          go_wp2_with fail
          refine (rword_any _ _).mono ?_
          rintro e ws ⟨rfl, rfl⟩
          rw [HA.out]
          go_wp2_with fail
          refine (rword_any _ _).mono ?_
          rintro e ws ⟨rfl, rfl⟩
          rw [HB.out]
          go_wp2_with fail
          go_ret2
          exact ⟨ret2_i (by rw [HE.out]) (by rw [HE.out]), rfl⟩
      · have bb := mfx_bd ha hb
        obtain ⟨p1, p2⟩ := pla_t hp
        obtain ⟨y1, y2⟩ := pw_p hp
        have HE := hide (show mfx a b p = wrd (a * b / pw p.toNat) by unfold mfx; rw [ha, hb, hp]; rfl)
        have HA := hide ha
        have HB := hide hb
        have HP := hide (show (decide (0 ≤ p) && decide (p ≤ 9)) = true from hp)
        clear ha hb hp
        cases hw : isw (a * b / pw p.toNat)
        · have HW := hide hw
          rw [show wrd (a * b / pw p.toNat) = ⟨0, 6⟩ by unfold wrd; rw [hw]; rfl] at HE
          clear hw
          go_enter Try.func35, Try.ntmps35
          go_wp2_with fail
          refine (rword_any _ _).mono ?_
          rintro e ws ⟨rfl, rfl⟩
          rw [HA.out]
          go_wp2_with fail
          refine (rword_any _ _).mono ?_
          rintro e ws ⟨rfl, rfl⟩
          rw [HB.out]
          go_wp2_with fail
          refine (power_any p _ p1 p2).mono ?_
          rintro e ws ⟨rfl, rfl⟩
          go_wp2_with fail
          refine (rfloor_any _ _ _ (by omega) (by omega) (by omega)).mono ?_
          rintro e ws ⟨rfl, rfl⟩
          go_wp2_with fail
          refine (rword_any _ _).mono ?_
          rintro e ws ⟨rfl, rfl⟩
          rw [HW.out]
          go_wp2_with fail
          go_ret2
          exact ⟨ret2_i (by rw [HE.out]) (by rw [HE.out]), rfl⟩
        · have HW := hide hw
          rw [show wrd (a * b / pw p.toNat) = ⟨a * b / pw p.toNat, 0⟩ by unfold wrd; rw [hw]; rfl] at HE
          clear hw
          go_enter Try.func35, Try.ntmps35
          go_wp2_with fail
          refine (rword_any _ _).mono ?_
          rintro e ws ⟨rfl, rfl⟩
          rw [HA.out]
          go_wp2_with fail
          refine (rword_any _ _).mono ?_
          rintro e ws ⟨rfl, rfl⟩
          rw [HB.out]
          go_wp2_with fail
          refine (power_any p _ p1 p2).mono ?_
          rintro e ws ⟨rfl, rfl⟩
          go_wp2_with fail
          refine (rfloor_any _ _ _ (by omega) (by omega) (by omega)).mono ?_
          rintro e ws ⟨rfl, rfl⟩
          go_wp2_with fail
          refine (rword_any _ _).mono ?_
          rintro e ws ⟨rfl, rfl⟩
          rw [HW.out]
          go_wp2_with fail
          go_ret2
          exact ⟨ret2_i (by rw [HE.out]) (by rw [HE.out]), rfl⟩

end Rc
end Go.Proofs.Ytlcgfhliaalccaa
