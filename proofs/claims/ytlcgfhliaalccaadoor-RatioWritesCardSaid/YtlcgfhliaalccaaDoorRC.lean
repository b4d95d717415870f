/- Contracts of Valid of the reference, lowest and Make of the program and of the reference. -/
import Derived.Test.YtlcgfhliaalccaaDoorRB
set_option linter.unusedVariables false
set_option linter.unusedSimpArgs false
namespace Go.Proofs.YtlcgfhliaalccaaDoor
open Go.RowKit Go.Sort Rt
namespace Rc

theorem rvalid_any (n d : Int) (w : World) :
    Calls Tryd.prog 12 #[.agg #[.int .i64 n, .int .i64 d]] w fun e w' => e = .returned (.bool (val n d)) ∧ Below w.heap.size w w' := by
  have k0 := cell_regrown (show (w.alloc (.cells #[.int .i64 n, .int .i64 d] 23)).cell? ⟨w.heap.size, 0, none⟩ = some (.int .i64 n) by simp)
  have k1 := cell_regrown (show (w.alloc (.cells #[.int .i64 n, .int .i64 d] 23)).cell? ⟨w.heap.size, 1, none⟩ = some (.int .i64 d) by simp)
  by_cases c1 : 1 ≤ d
  · by_cases c2 : d ≤ 1000000000
    · by_cases c3 : -1000000000 ≤ n
      · by_cases c4 : n ≤ 1000000000
        · obtain ⟨m, rfl⟩ : ∃ m : Nat, d = (m : Int) := ⟨d.toNat, by omega⟩
          have HV := hide (val_gcd n m c1 c2 c3 c4)
          have q3 : ∀ (W : World) d os, Calls Tryd.prog 23 #[.int .i64 n] (grow (redrawn W d) os) fun e w'' => e = .returned (.int .i64 (n.natAbs : Nat)) ∧ ∃ p : Regrown, w'' = grow (redrawn W p.d) p.os :=
            fun W d os => regrown_same (rsize_any n _ (by omega) (by omega))
          have q4 : ∀ (W : World) d os, Calls Tryd.prog 22 #[.int .i64 (n.natAbs : Nat), .int .i64 (m : Int)] (grow (redrawn W d) os) fun e w'' => e = .returned (.int .i64 (Nat.gcd n.natAbs m : Nat)) ∧ ∃ p : Regrown, w'' = grow (redrawn W p.d) p.os :=
            fun W d os => regrown_same (divisor_any _ _ _ (by omega) (by omega))
          have Q3 := hide q3
          have Q4 := hide q4
          clear q3 q4
          go_enter Tryd.func12, Tryd.ntmps12
          go_wp2_with fail
          refine wp_region_quiet_below mixed (by kernel_rfl) ?_
          repeat (go_big_quiet_step (first | with_reducible exact Q3.out _ _ _ | with_reducible exact Q4.out _ _ _))
          refine wpQuiet_nil ?_
          intro _ hw'
          obtain ⟨⟨dq, osq⟩, hw''⟩ := hw'
          subst hw''
          go_wp2_with fail
          go_ret
          exact ⟨by rw [HV.out]; rfl, ((Below.refl _ _).alloc (Nat.le_refl _) _).trans ((below_regrown _ dq osq).mono (by simp))⟩
        · have HV := hide (show val n d = false by unfold val; simp; omega)
          have c5 : decide (n ≤ 1000000000) = false := by simpa using c4
          clear c4
          go_enter Tryd.func12, Tryd.ntmps12
          go_wp2_with fail
          refine wp_region_quiet_below mixed (by kernel_rfl) ?_
          repeat (go_big_quiet_step (first | fail))
          refine wpQuiet_nil ?_
          intro _ hw'
          obtain ⟨⟨dq, osq⟩, hw''⟩ := hw'
          subst hw''
          go_wp2_with fail
          go_ret
          exact ⟨by rw [HV.out]; rfl, ((Below.refl _ _).alloc (Nat.le_refl _) _).trans ((below_regrown _ dq osq).mono (by simp))⟩
      · have HV := hide (show val n d = false by unfold val; simp; omega)
        have c5 : decide (-1000000000 ≤ n) = false := by simpa using c3
        clear c3
        go_enter Tryd.func12, Tryd.ntmps12
        go_wp2_with fail
        refine wp_region_quiet_below mixed (by kernel_rfl) ?_
        repeat (go_big_quiet_step (first | fail))
        refine wpQuiet_nil ?_
        intro _ hw'
        obtain ⟨⟨dq, osq⟩, hw''⟩ := hw'
        subst hw''
        go_wp2_with fail
        go_ret
        exact ⟨by rw [HV.out]; rfl, ((Below.refl _ _).alloc (Nat.le_refl _) _).trans ((below_regrown _ dq osq).mono (by simp))⟩
    · have HV := hide (show val n d = false by unfold val; simp; omega)
      have c5 : decide (d ≤ 1000000000) = false := by simpa using c2
      clear c2
      go_enter Tryd.func12, Tryd.ntmps12
      go_wp2_with fail
      refine wp_region_quiet_below mixed (by kernel_rfl) ?_
      repeat (go_big_quiet_step (first | fail))
      refine wpQuiet_nil ?_
      intro _ hw'
      obtain ⟨⟨dq, osq⟩, hw''⟩ := hw'
      subst hw''
      go_wp2_with fail
      go_ret
      exact ⟨by rw [HV.out]; rfl, ((Below.refl _ _).alloc (Nat.le_refl _) _).trans ((below_regrown _ dq osq).mono (by simp))⟩
  · have HV := hide (show val n d = false by unfold val; simp; omega)
    have c5 : decide (1 ≤ d) = false := by simpa using c1
    clear c1
    go_enter Tryd.func12, Tryd.ntmps12
    go_wp2_with fail
    refine wp_region_quiet_below mixed (by kernel_rfl) ?_
    repeat (go_big_quiet_step (first | fail))
    refine wpQuiet_nil ?_
    intro _ hw'
    obtain ⟨⟨dq, osq⟩, hw''⟩ := hw'
    subst hw''
    go_wp2_with fail
    go_ret
    exact ⟨by rw [HV.out]; rfl, ((Below.refl _ _).alloc (Nat.le_refl _) _).trans ((below_regrown _ dq osq).mono (by simp))⟩

end Rc
end Go.Proofs.YtlcgfhliaalccaaDoor
