/-
  The statement RatioMakes: for all numbers the law returns true.
  Conditions: none beyond those of the given row.
-/
import Derived.Test.YtlcgfhliaalccaaRows
import Derived.Test.YtlcgfhliaalccaaRG
import Derived.ProofKit
import Derived.OpenShut
import Derived.ShutString
import Derived.ChangeOld
import Derived.Lib.SmallJoins
set_option linter.unusedVariables false
set_option linter.unusedSimpArgs false
namespace Go.Proofs.Ytlcgfhliaalccaa.ratioMakes
open Go.ChangeShapes Go.WideShapes Go.ChangeAt Go.RowKit Go.Joins
open Go.ChangeMaps (open_string shut_string)
open Go.Sort Rt Rc

theorem walk_ok (n d : Int) (w : World) (he : ((mk n d).e != 0) = false) (hv : Hid (val (mk n d).n (mk n d).d = true)) :
    Calls Try.prog 3 #[.int .i64 n, .int .i64 d] w fun e w' => e = .returned (.bool true) ∧ Below w.heap.size w w' := by
  have e1 : ((mk n d).n == (mk n d).n) = true := by simp
  have e2 : ((mk n d).d == (mk n d).d) = true := by simp
  have e3 : ((mk n d).e == (mk n d).e) = true := by simp
  have e4 : (val n d == val n d) = true := by simp
  go_enter Try.func3, Try.ntmps3
  go_wp2_with fail
  refine (make_any n d _).mono ?_
  rintro e w1 ⟨rfl, hb⟩
  have hz1 : w.heap.size + 0 ≤ w1.heap.size := by have := hb.size; (try simp at this); omega
  have hw1 : Below w.heap.size w w1 := Below.trans (by go_grown) (hb.mono (by (try simp); (try omega)))
  clear hb
  go_wp2_with fail
  refine (rmake_any n d _).mono ?_
  rintro e w2 ⟨rfl, hb⟩
  have hz2 : w1.heap.size + 1 ≤ w2.heap.size := by have := hb.size; (try simp at this); omega
  have d0_0 : w2.cell? ⟨w1.heap.size, 0, none⟩ = some (.int .i64 (mk n d).n) := by rw [hb.cell (by (try simp); (try omega))]; simp
  have d0_1 : w2.cell? ⟨w1.heap.size, 1, none⟩ = some (.int .i64 (mk n d).d) := by rw [hb.cell (by (try simp); (try omega))]; simp
  have c0_0 := d0_0
  clear d0_0
  have c0_1 := d0_1
  clear d0_1
  have hw2 : Below w.heap.size w w2 := Below.trans (by go_grown) (hb.mono (by (try simp); (try omega)))
  clear hb hw1
  go_wp2_with fail
  refine at_world (fun X => X.cell? ⟨w1.heap.size, 0, none⟩ = some (.int .i64 (mk n d).n) ∧ X.cell? ⟨w1.heap.size, 1, none⟩ = some (.int .i64 (mk n d).d) ∧ X.cell? ⟨w2.heap.size, 0, none⟩ = some (.int .i64 (mk n d).n) ∧ X.cell? ⟨w2.heap.size, 1, none⟩ = some (.int .i64 (mk n d).d) ∧ X.cell? ⟨w2.heap.size + 1, 0, none⟩ = some (.int .i64 n) ∧ X.cell? ⟨w2.heap.size + 1, 1, none⟩ = some (.int .i64 d) ∧ Below w.heap.size w X ∧ w2.heap.size + 2 ≤ X.heap.size) ⟨by first | exact c0_0 | ((repeat rw [cell_past (by (try simp); (try omega))]); exact c0_0) | (simp [cell_past, show w1.heap.size < w2.heap.size by omega, c0_0]; done), by first | exact c0_1 | ((repeat rw [cell_past (by (try simp); (try omega))]); exact c0_1) | (simp [cell_past, show w1.heap.size < w2.heap.size by omega, c0_1]; done), by simp, by simp, by simp, by simp, by go_grown, by simp⟩ (fun w3 hX => ?_)
  clear c0_0 c0_1
  obtain ⟨d0_0, d0_1, d1_0, d1_1, d2_0, d2_1, hw, hz3⟩ := hX
  have c0_0 := d0_0
  clear d0_0
  have c0_1 := d0_1
  clear d0_1
  have c1_0 := d1_0
  clear d1_0
  have c1_1 := d1_1
  clear d1_1
  have c2_0 := d2_0
  clear d2_0
  have c2_1 := d2_1
  clear d2_1
  clear hw2
  have hw3 := hw
  clear hw
  have k0_0 := cell_regrown c0_0
  have k0_1 := cell_regrown c0_1
  have k1_0 := cell_regrown c1_0
  have k1_1 := cell_regrown c1_1
  have k2_0 := cell_regrown c2_0
  have k2_1 := cell_regrown c2_1
  have q0 : ∀ dd oo, Calls Try.prog 14 #[.agg #[.int .i64 n, .int .i64 d]] (grow (redrawn w3 dd) oo) fun e w'' => e = .returned (.bool (val n d)) ∧ ∃ p : Regrown, w'' = grow (redrawn w3 p.d) p.os := fun dd oo => Calls.regrown_of (valid_any n d _)
  have Q0 := hide q0
  clear q0
  have q1 : ∀ dd oo, Calls Try.prog 15 #[.agg #[.int .i64 n, .int .i64 d]] (grow (redrawn w3 dd) oo) fun e w'' => e = .returned (.bool (val n d)) ∧ ∃ p : Regrown, w'' = grow (redrawn w3 p.d) p.os := fun dd oo => Calls.regrown_of (rvalid_any n d _)
  have Q1 := hide q1
  clear q1
  have q2 : ∀ dd oo, Calls Try.prog 16 #[] (grow (redrawn w3 dd) oo) fun e w'' => e = .returned (.bool true) ∧ ∃ p : Regrown, w'' = grow (redrawn w3 p.d) p.os := fun dd oo => Calls.regrown_of (sane_any _)
  have Q2 := hide q2
  clear q2
  have q3 : ∀ dd oo, Calls Try.prog 14 #[.agg #[.int .i64 (mk n d).n, .int .i64 (mk n d).d]] (grow (redrawn w3 dd) oo) fun e w'' => e = .returned (.bool true) ∧ ∃ p : Regrown, w'' = grow (redrawn w3 p.d) p.os := fun dd oo => Calls.regrown_of ((valid_any _ _ _).mono fun e w' ⟨he, hb⟩ => ⟨by rw [he, hv.out], hb⟩)
  have Q3 := hide q3
  clear q3
  refine wp_region_quiet_below mixed (by kernel_rfl) ?_
  repeat (go_big_quiet_step (first | with_reducible exact Q0.out _ _ | with_reducible exact Q1.out _ _ | with_reducible exact Q2.out _ _ | with_reducible exact Q3.out _ _))
  refine wpQuiet_nil ?_
  intro _ hw'
  obtain ⟨⟨dq, osq⟩, hw''⟩ := hw'
  subst hw''
  have hb := below_regrown w3 dq osq
  clear k0_0 k0_1 k1_0 k1_1 k2_0 k2_1 Q0 Q1 Q2 Q3
  generalize grow (redrawn w3 dq) osq = w4 at *
  have hz4 : w3.heap.size ≤ w4.heap.size := hb.size
  have d0_0 : w4.cell? ⟨w1.heap.size, 0, none⟩ = some (.int .i64 (mk n d).n) := by rw [hb.cell (by (try simp); (try omega))]; first | exact c0_0 | ((repeat rw [cell_past (by (try simp); (try omega))]); exact c0_0) | (simp [cell_past, show w1.heap.size < w3.heap.size by omega, c0_0]; done)
  have d0_1 : w4.cell? ⟨w1.heap.size, 1, none⟩ = some (.int .i64 (mk n d).d) := by rw [hb.cell (by (try simp); (try omega))]; first | exact c0_1 | ((repeat rw [cell_past (by (try simp); (try omega))]); exact c0_1) | (simp [cell_past, show w1.heap.size < w3.heap.size by omega, c0_1]; done)
  have d1_0 : w4.cell? ⟨w2.heap.size, 0, none⟩ = some (.int .i64 (mk n d).n) := by rw [hb.cell (by (try simp); (try omega))]; first | exact c1_0 | ((repeat rw [cell_past (by (try simp); (try omega))]); exact c1_0) | (simp [cell_past, show w2.heap.size < w3.heap.size by omega, c1_0]; done)
  have d1_1 : w4.cell? ⟨w2.heap.size, 1, none⟩ = some (.int .i64 (mk n d).d) := by rw [hb.cell (by (try simp); (try omega))]; first | exact c1_1 | ((repeat rw [cell_past (by (try simp); (try omega))]); exact c1_1) | (simp [cell_past, show w2.heap.size < w3.heap.size by omega, c1_1]; done)
  have d2_0 : w4.cell? ⟨w2.heap.size + 1, 0, none⟩ = some (.int .i64 n) := by rw [hb.cell (by (try simp); (try omega))]; first | exact c2_0 | ((repeat rw [cell_past (by (try simp); (try omega))]); exact c2_0) | (simp [cell_past, show w2.heap.size + 1 < w3.heap.size by omega, c2_0]; done)
  have d2_1 : w4.cell? ⟨w2.heap.size + 1, 1, none⟩ = some (.int .i64 d) := by rw [hb.cell (by (try simp); (try omega))]; first | exact c2_1 | ((repeat rw [cell_past (by (try simp); (try omega))]); exact c2_1) | (simp [cell_past, show w2.heap.size + 1 < w3.heap.size by omega, c2_1]; done)
  clear c0_0 c0_1 c1_0 c1_1 c2_0 c2_1
  have c0_0 := d0_0
  clear d0_0
  have c0_1 := d0_1
  clear d0_1
  have c1_0 := d1_0
  clear d1_0
  have c1_1 := d1_1
  clear d1_1
  have c2_0 := d2_0
  clear d2_0
  have c2_1 := d2_1
  clear d2_1
  have hw4 : Below w.heap.size w w4 := Below.trans hw3 (hb.mono (by omega))
  clear hb hw3
  go_wp2_with fail
  go_ret
  exact ⟨rfl, by go_grown⟩

theorem walk_no (n d : Int) (w : World) (he : ((mk n d).e != 0) = true) :
    Calls Try.prog 3 #[.int .i64 n, .int .i64 d] w fun e w' => e = .returned (.bool true) ∧ Below w.heap.size w w' := by
  have e1 : ((mk n d).n == (mk n d).n) = true := by simp
  have e2 : ((mk n d).d == (mk n d).d) = true := by simp
  have e3 : ((mk n d).e == (mk n d).e) = true := by simp
  have e4 : (val n d == val n d) = true := by simp
  go_enter Try.func3, Try.ntmps3
  go_wp2_with fail
  refine (make_any n d _).mono ?_
  rintro e w1 ⟨rfl, hb⟩
  have hz1 : w.heap.size + 0 ≤ w1.heap.size := by have := hb.size; (try simp at this); omega
  have hw1 : Below w.heap.size w w1 := Below.trans (by go_grown) (hb.mono (by (try simp); (try omega)))
  clear hb
  go_wp2_with fail
  refine (rmake_any n d _).mono ?_
  rintro e w2 ⟨rfl, hb⟩
  have hz2 : w1.heap.size + 1 ≤ w2.heap.size := by have := hb.size; (try simp at this); omega
  have d0_0 : w2.cell? ⟨w1.heap.size, 0, none⟩ = some (.int .i64 (mk n d).n) := by rw [hb.cell (by (try simp); (try omega))]; simp
  have d0_1 : w2.cell? ⟨w1.heap.size, 1, none⟩ = some (.int .i64 (mk n d).d) := by rw [hb.cell (by (try simp); (try omega))]; simp
  have c0_0 := d0_0
  clear d0_0
  have c0_1 := d0_1
  clear d0_1
  have hw2 : Below w.heap.size w w2 := Below.trans (by go_grown) (hb.mono (by (try simp); (try omega)))
  clear hb hw1
  go_wp2_with fail
  refine at_world (fun X => X.cell? ⟨w1.heap.size, 0, none⟩ = some (.int .i64 (mk n d).n) ∧ X.cell? ⟨w1.heap.size, 1, none⟩ = some (.int .i64 (mk n d).d) ∧ X.cell? ⟨w2.heap.size, 0, none⟩ = some (.int .i64 (mk n d).n) ∧ X.cell? ⟨w2.heap.size, 1, none⟩ = some (.int .i64 (mk n d).d) ∧ X.cell? ⟨w2.heap.size + 1, 0, none⟩ = some (.int .i64 n) ∧ X.cell? ⟨w2.heap.size + 1, 1, none⟩ = some (.int .i64 d) ∧ Below w.heap.size w X ∧ w2.heap.size + 2 ≤ X.heap.size) ⟨by first | exact c0_0 | ((repeat rw [cell_past (by (try simp); (try omega))]); exact c0_0) | (simp [cell_past, show w1.heap.size < w2.heap.size by omega, c0_0]; done), by first | exact c0_1 | ((repeat rw [cell_past (by (try simp); (try omega))]); exact c0_1) | (simp [cell_past, show w1.heap.size < w2.heap.size by omega, c0_1]; done), by simp, by simp, by simp, by simp, by go_grown, by simp⟩ (fun w3 hX => ?_)
  clear c0_0 c0_1
  obtain ⟨d0_0, d0_1, d1_0, d1_1, d2_0, d2_1, hw, hz3⟩ := hX
  have c0_0 := d0_0
  clear d0_0
  have c0_1 := d0_1
  clear d0_1
  have c1_0 := d1_0
  clear d1_0
  have c1_1 := d1_1
  clear d1_1
  have c2_0 := d2_0
  clear d2_0
  have c2_1 := d2_1
  clear d2_1
  clear hw2
  have hw3 := hw
  clear hw
  have k0_0 := cell_regrown c0_0
  have k0_1 := cell_regrown c0_1
  have k1_0 := cell_regrown c1_0
  have k1_1 := cell_regrown c1_1
  have k2_0 := cell_regrown c2_0
  have k2_1 := cell_regrown c2_1
  have q0 : ∀ dd oo, Calls Try.prog 14 #[.agg #[.int .i64 n, .int .i64 d]] (grow (redrawn w3 dd) oo) fun e w'' => e = .returned (.bool (val n d)) ∧ ∃ p : Regrown, w'' = grow (redrawn w3 p.d) p.os := fun dd oo => Calls.regrown_of (valid_any n d _)
  have Q0 := hide q0
  clear q0
  have q1 : ∀ dd oo, Calls Try.prog 15 #[.agg #[.int .i64 n, .int .i64 d]] (grow (redrawn w3 dd) oo) fun e w'' => e = .returned (.bool (val n d)) ∧ ∃ p : Regrown, w'' = grow (redrawn w3 p.d) p.os := fun dd oo => Calls.regrown_of (rvalid_any n d _)
  have Q1 := hide q1
  clear q1
  have q2 : ∀ dd oo, Calls Try.prog 16 #[] (grow (redrawn w3 dd) oo) fun e w'' => e = .returned (.bool true) ∧ ∃ p : Regrown, w'' = grow (redrawn w3 p.d) p.os := fun dd oo => Calls.regrown_of (sane_any _)
  have Q2 := hide q2
  clear q2
  refine wp_region_quiet_below mixed (by kernel_rfl) ?_
  repeat (go_big_quiet_step (first | with_reducible exact Q0.out _ _ | with_reducible exact Q1.out _ _ | with_reducible exact Q2.out _ _))
  refine wpQuiet_nil ?_
  intro _ hw'
  obtain ⟨⟨dq, osq⟩, hw''⟩ := hw'
  subst hw''
  have hb := below_regrown w3 dq osq
  clear k0_0 k0_1 k1_0 k1_1 k2_0 k2_1 Q0 Q1 Q2
  generalize grow (redrawn w3 dq) osq = w4 at *
  have hz4 : w3.heap.size ≤ w4.heap.size := hb.size
  have d0_0 : w4.cell? ⟨w1.heap.size, 0, none⟩ = some (.int .i64 (mk n d).n) := by rw [hb.cell (by (try simp); (try omega))]; first | exact c0_0 | ((repeat rw [cell_past (by (try simp); (try omega))]); exact c0_0) | (simp [cell_past, show w1.heap.size < w3.heap.size by omega, c0_0]; done)
  have d0_1 : w4.cell? ⟨w1.heap.size, 1, none⟩ = some (.int .i64 (mk n d).d) := by rw [hb.cell (by (try simp); (try omega))]; first | exact c0_1 | ((repeat rw [cell_past (by (try simp); (try omega))]); exact c0_1) | (simp [cell_past, show w1.heap.size < w3.heap.size by omega, c0_1]; done)
  have d1_0 : w4.cell? ⟨w2.heap.size, 0, none⟩ = some (.int .i64 (mk n d).n) := by rw [hb.cell (by (try simp); (try omega))]; first | exact c1_0 | ((repeat rw [cell_past (by (try simp); (try omega))]); exact c1_0) | (simp [cell_past, show w2.heap.size < w3.heap.size by omega, c1_0]; done)
  have d1_1 : w4.cell? ⟨w2.heap.size, 1, none⟩ = some (.int .i64 (mk n d).d) := by rw [hb.cell (by (try simp); (try omega))]; first | exact c1_1 | ((repeat rw [cell_past (by (try simp); (try omega))]); exact c1_1) | (simp [cell_past, show w2.heap.size < w3.heap.size by omega, c1_1]; done)
  have d2_0 : w4.cell? ⟨w2.heap.size + 1, 0, none⟩ = some (.int .i64 n) := by rw [hb.cell (by (try simp); (try omega))]; first | exact c2_0 | ((repeat rw [cell_past (by (try simp); (try omega))]); exact c2_0) | (simp [cell_past, show w2.heap.size + 1 < w3.heap.size by omega, c2_0]; done)
  have d2_1 : w4.cell? ⟨w2.heap.size + 1, 1, none⟩ = some (.int .i64 d) := by rw [hb.cell (by (try simp); (try omega))]; first | exact c2_1 | ((repeat rw [cell_past (by (try simp); (try omega))]); exact c2_1) | (simp [cell_past, show w2.heap.size + 1 < w3.heap.size by omega, c2_1]; done)
  clear c0_0 c0_1 c1_0 c1_1 c2_0 c2_1
  have c0_0 := d0_0
  clear d0_0
  have c0_1 := d0_1
  clear d0_1
  have c1_0 := d1_0
  clear d1_0
  have c1_1 := d1_1
  clear d1_1
  have c2_0 := d2_0
  clear d2_0
  have c2_1 := d2_1
  clear d2_1
  have hw4 : Below w.heap.size w w4 := Below.trans hw3 (hb.mono (by omega))
  clear hb hw3
  go_wp2_with fail
  go_ret
  exact ⟨rfl, by go_grown⟩

theorem walk (n d : Int) (w : World) (w0 : (Lit.int .i64 n).wf = true) (w1 : (Lit.int .i64 d).wf = true) :
    Calls Try.prog 3 #[.int .i64 n, .int .i64 d] w fun e w' => e = .returned (.bool true) ∧ Below w.heap.size w w' := by
  clear w0 w1
  by_cases h : (mk n d).e = 0
  · exact walk_ok n d w (by simpa using h) (hide (mk_ok h))
  · exact walk_no n d w (by simpa using h)

theorem own : ownKnob Try.prog.godebug = none := by kernel_rfl
theorem laidOut : laidOutB Try.prog = true := by kernel_rfl

set_option maxRecDepth 100000 in
theorem lifted (os : Os) (started : os.Started) (H : Type) (enc : TypeId × Value → H) :
    ReturnsInHanded {} Try.checked os 3 .any (Rows.ratioMakesSpec.pre6 enc Try.prog Try.f3 Rows.ratioMakesRow.domain false) (Rows.ratioMakesSpec.post enc Try.prog Try.f3 false true false false) := by
  refine returnsInHanded_of_change (C := Try.checked) own started (by kernel_rfl) Try.func3
    (ChangeSpec.witness6 (enc := enc) (C := Try.checked) false ⟨#[], #[.int .i64 0, .int .i64 0], []⟩ 8 (by kernel_rfl) (by kernel_rfl) (by kernel_rfl) (by kernel_rfl)) ?_
  intro W base args ds gs before hval0 hW hcnd _
  have hval : ∀ (j : Nat) t v, Try.f3.params[j]? = some t → args[j]? = some v → Value.okWide Try.prog W .any base t v := hval0
  have hW' := hW
  obtain ⟨p, q, hA0, hV, rfl, hfz, hnd⟩ := hW
  have hA : DataW.TrodAll enc Try.prog W 0 (fun _ => true) true Try.f3.params.toList args.toList ds p := hA0
  rw [Try.params3] at hA hval
  obtain ⟨v0, vs0, d0, ds0, p0, q0, hargs, rfl, rfl, h0, r0⟩ := trodAll_cons hA
  obtain ⟨v1, vs1, d1, ds1, p1, q1, rfl, rfl, rfl, h1, r1⟩ := trodAll_cons r0
  obtain ⟨rfl, rfl, rfl⟩ := trodAll_nil r1
  obtain rfl : args = #[v0, v1] := by cases args; simp_all
  obtain ⟨rfl, rfl⟩ := trodVars_none hV
  obtain ⟨a0, rfl, rfl, rfl, w0⟩ := open_int Try.underlying3 (hval 0 3 v0 rfl rfl) h0
  obtain ⟨a1, rfl, rfl, rfl, w1⟩ := open_int Try.underlying3 (hval 1 3 v1 rfl rfl) h1
  clear hA0 hval0
  refine (walk a0 a1 W w0 w1).mono fun e W' ⟨he, bel⟩ => ?_
  subst he
  exact ⟨_, rfl, _, _, _, [], _, [], hW', trodAll_mk1 (shut_bool Try.underlying4 _), (trodAll_cons_mk (shut_int Try.underlying3 w0) (trodAll_cons_mk (shut_int Try.underlying3 w1) trodAll_mk0)), rfl, bel.frame _, fun h => by cases h⟩

theorem over : Rows.ratioMakesRow.holds Try.pinned (OpenSpec.ofChange Rows.ratioMakesSpec) :=
  OpenClaim.holds_of_wide 3 Try.f3 rfl rfl rfl rfl rfl rfl rfl ⟨rfl, rfl, rfl, rfl, rfl⟩ rfl rfl rfl rfl rfl (by kernel_rfl) Try.func3 (by kernel_rfl)
    (of_decide_eq_true (by kernel_rfl)) (by unfold Func.isWrapper; first | (rw [if_pos (by decide +kernel)]; kernel_rfl) | (rw [if_neg (by decide +kernel)]; exact ⟨rfl, rfl⟩))
    (fun os started H enc _ => lifted os started H enc)

/-- the statement -/
theorem proved : Rows.RatioMakesSaid := over
end Go.Proofs.Ytlcgfhliaalccaa.ratioMakes
