/- Contracts of Valid, lowest and Make, of the program and of the reference. -/
import Derived.Test.YtlcgfhliaalccaaDoorRA
set_option linter.unusedVariables false
set_option linter.unusedSimpArgs false
namespace Go.Proofs.YtlcgfhliaalccaaDoor
open Go.RowKit Go.Sort Rt
namespace Rc

theorem regrown_same {P : Program} {f : FuncId} {args : Array Value} {w : World} {d : Nat} {os : Array Obj} {v : Value}
    (h : Calls P f args (grow (redrawn w d) os) fun e w' => e = .returned v ∧ grow (redrawn w d) os = w') : Calls P f args (grow (redrawn w d) os) fun e w'' => e = .returned v ∧ ∃ p : Regrown, w'' = grow (redrawn w p.d) p.os :=
  h.mono fun _ _ ⟨he, hw⟩ => ⟨he, ⟨d, os⟩, hw.symm⟩

theorem val_gcd (n : Int) (d : Nat) (h1 : 1 ≤ (d : Int)) (h2 : (d : Int) ≤ 1000000000) (h3 : -1000000000 ≤ n) (h4 : n ≤ 1000000000) : val n d = ((Nat.gcd n.natAbs d : Nat) == (1 : Int)) := by
  unfold val Int.gcd
  simp only [Int.natAbs_natCast]
  rw [Bool.eq_iff_iff]
  simp only [decide_eq_true_iff, beq_iff_eq]
  omega

theorem valid_any (n d : Int) (w : World) :
    Calls Tryd.prog 10 #[.agg #[.int .i64 n, .int .i64 d]] w fun e w' => e = .returned (.bool (val n d)) ∧ Below w.heap.size w w' := by
  by_cases hd : 1 ≤ d ∧ d ≤ 1000000000
  · obtain ⟨d1, d2⟩ := hd
    by_cases hn : -1000000000 ≤ n ∧ n ≤ 1000000000
    · obtain ⟨n1, n2⟩ := hn
      obtain ⟨m, rfl⟩ : ∃ m : Nat, d = (m : Int) := ⟨d.toNat, by omega⟩
      have HV := hide (val_gcd n m d1 d2 n1 n2)
      have q1 : ∀ (W : World) d os, Calls Tryd.prog 18 #[.int .i64 (m : Int), .int .i64 1, .int .i64 1000000000] (grow (redrawn W d) os) fun e w'' => e = .returned (.bool true) ∧ ∃ p : Regrown, w'' = grow (redrawn W p.d) p.os :=
        fun W d os => regrown_same ((within_any _ _ _ _).mono fun e w' ⟨he, hw⟩ => ⟨by rw [he]; simp; omega, hw⟩)
      have q2 : ∀ (W : World) d os, Calls Tryd.prog 18 #[.int .i64 n, .int .i64 (-1000000000), .int .i64 1000000000] (grow (redrawn W d) os) fun e w'' => e = .returned (.bool true) ∧ ∃ p : Regrown, w'' = grow (redrawn W p.d) p.os :=
        fun W d os => regrown_same ((within_any _ _ _ _).mono fun e w' ⟨he, hw⟩ => ⟨by rw [he]; simp; omega, hw⟩)
      have q3 : ∀ (W : World) d os, Calls Tryd.prog 20 #[.int .i64 n] (grow (redrawn W d) os) fun e w'' => e = .returned (.int .i64 (n.natAbs : Nat)) ∧ ∃ p : Regrown, w'' = grow (redrawn W p.d) p.os :=
        fun W d os => regrown_same (size_any n _ (by omega) (by omega))
      have q4 : ∀ (W : World) d os, Calls Tryd.prog 19 #[.int .i64 (n.natAbs : Nat), .int .i64 (m : Int)] (grow (redrawn W d) os) fun e w'' => e = .returned (.int .i64 (Nat.gcd n.natAbs m : Nat)) ∧ ∃ p : Regrown, w'' = grow (redrawn W p.d) p.os :=
        fun W d os => Calls.regrown_of (gcd_any _ _ _ (by omega) (by omega))
      have Q1 := hide q1
      have Q2 := hide q2
      have Q3 := hide q3
      have Q4 := hide q4
      clear q1 q2 q3 q4
      have k0 := cell_regrown (show (w.alloc (.cells #[.int .i64 n, .int .i64 (m : Int)] 23)).cell? ⟨w.heap.size, 0, none⟩ = some (.int .i64 n) by simp)
      have k1 := cell_regrown (show (w.alloc (.cells #[.int .i64 n, .int .i64 (m : Int)] 23)).cell? ⟨w.heap.size, 1, none⟩ = some (.int .i64 (m : Int)) by simp)
      go_enter Tryd.func10, Tryd.ntmps10
      go_wp2_with fail
      refine wp_region_quiet_below mixed (by kernel_rfl) ?_
      repeat (go_big_quiet_step (first | with_reducible exact Q1.out _ _ _ | with_reducible exact Q2.out _ _ _ | with_reducible exact Q3.out _ _ _ | with_reducible exact Q4.out _ _ _))
      refine wpQuiet_nil ?_
      intro _ hw'
      obtain ⟨⟨dq, osq⟩, hw''⟩ := hw'
      subst hw''
      go_wp2_with fail
      go_ret
      exact ⟨by rw [HV.out]; rfl, ((Below.refl _ _).alloc (Nat.le_refl _) _).trans ((below_regrown _ dq osq).mono (by simp))⟩
    · have HV := hide (show val n d = false by unfold val; simp; omega)
      have q1 : ∀ (W : World) dq os, Calls Tryd.prog 18 #[.int .i64 d, .int .i64 1, .int .i64 1000000000] (grow (redrawn W dq) os) fun e w'' => e = .returned (.bool true) ∧ ∃ p : Regrown, w'' = grow (redrawn W p.d) p.os :=
        fun W dq os => regrown_same ((within_any _ _ _ _).mono fun e w' ⟨he, hw⟩ => ⟨by rw [he]; simp; omega, hw⟩)
      have q2 : ∀ (W : World) dq os, Calls Tryd.prog 18 #[.int .i64 n, .int .i64 (-1000000000), .int .i64 1000000000] (grow (redrawn W dq) os) fun e w'' => e = .returned (.bool false) ∧ ∃ p : Regrown, w'' = grow (redrawn W p.d) p.os :=
        fun W dq os => regrown_same ((within_any _ _ _ _).mono fun e w' ⟨he, hw⟩ => ⟨by rw [he]; simp; omega, hw⟩)
      have Q1 := hide q1
      have Q2 := hide q2
      clear q1 q2 hn
      have k0 := cell_regrown (show (w.alloc (.cells #[.int .i64 n, .int .i64 d] 23)).cell? ⟨w.heap.size, 0, none⟩ = some (.int .i64 n) by simp)
      have k1 := cell_regrown (show (w.alloc (.cells #[.int .i64 n, .int .i64 d] 23)).cell? ⟨w.heap.size, 1, none⟩ = some (.int .i64 d) by simp)
      go_enter Tryd.func10, Tryd.ntmps10
      go_wp2_with fail
      refine wp_region_quiet_below mixed (by kernel_rfl) ?_
      repeat (go_big_quiet_step (first | with_reducible exact Q1.out _ _ _ | with_reducible exact Q2.out _ _ _))
      refine wpQuiet_nil ?_
      intro _ hw'
      obtain ⟨⟨dq, osq⟩, hw''⟩ := hw'
      subst hw''
      go_wp2_with fail
      go_ret
      exact ⟨by rw [HV.out]; rfl, ((Below.refl _ _).alloc (Nat.le_refl _) _).trans ((below_regrown _ dq osq).mono (by simp))⟩
  · have HV := hide (show val n d = false by unfold val; simp; omega)
    have q1 : ∀ (W : World) dq os, Calls Tryd.prog 18 #[.int .i64 d, .int .i64 1, .int .i64 1000000000] (grow (redrawn W dq) os) fun e w'' => e = .returned (.bool false) ∧ ∃ p : Regrown, w'' = grow (redrawn W p.d) p.os :=
      fun W dq os => regrown_same ((within_any _ _ _ _).mono fun e w' ⟨he, hw⟩ => ⟨by rw [he]; simp; omega, hw⟩)
    have Q1 := hide q1
    clear q1 hd
    have k0 := cell_regrown (show (w.alloc (.cells #[.int .i64 n, .int .i64 d] 23)).cell? ⟨w.heap.size, 0, none⟩ = some (.int .i64 n) by simp)
    have k1 := cell_regrown (show (w.alloc (.cells #[.int .i64 n, .int .i64 d] 23)).cell? ⟨w.heap.size, 1, none⟩ = some (.int .i64 d) by simp)
    go_enter Tryd.func10, Tryd.ntmps10
    go_wp2_with fail
    refine wp_region_quiet_below mixed (by kernel_rfl) ?_
    repeat (go_big_quiet_step (first | with_reducible exact Q1.out _ _ _))
    refine wpQuiet_nil ?_
    intro _ hw'
    obtain ⟨⟨dq, osq⟩, hw''⟩ := hw'
    subst hw''
    go_wp2_with fail
    go_ret
    exact ⟨by rw [HV.out]; rfl, ((Below.refl _ _).alloc (Nat.le_refl _) _).trans ((below_regrown _ dq osq).mono (by simp))⟩
end Rc
end Go.Proofs.YtlcgfhliaalccaaDoor
