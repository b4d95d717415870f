/- The reference: Valid, Cost. -/
import Derived.Test.YteeljnlepbnhkaaEE
import Derived.Test.YteeljnlepbnhkaaEF
import Derived.Test.YteeljnlepbnhkaaEG
set_option linter.unusedVariables false
set_option linter.unusedSimpArgs false
namespace Go.Proofs.Yteeljnlepbnhkaa
open Go.RowKit Go.Sort
namespace Ec

theorem rValid_any (op a b : Int) (p : Bool) (w : World) :
    Calls Try.prog 13 #[.agg #[.int .i64 op, .int .i64 a, .int .i64 b], .bool p] w fun e w' => e = .returned (.bool (vld op a b p)) ∧ Below w.heap.size w w' := by
  by_cases hop : 0 ≤ op ∧ op < 36
  · have hc : op = 0 ∨ op = 1 ∨ op = 2 ∨ op = 3 ∨ op = 4 ∨ op = 5 ∨ op = 6 ∨ op = 7 ∨ op = 8 ∨ op = 9 ∨ op = 10 ∨ op = 11 ∨ op = 12 ∨ op = 13 ∨ op = 14 ∨ op = 15 ∨ op = 16 ∨ op = 17 ∨ op = 18 ∨ op = 19 ∨ op = 20 ∨ op = 21 ∨ op = 22 ∨ op = 23 ∨ op = 24 ∨ op = 25 ∨ op = 26 ∨ op = 27 ∨ op = 28 ∨ op = 29 ∨ op = 30 ∨ op = 31 ∨ op = 32 ∨ op = 33 ∨ op = 34 ∨ op = 35 := by omega
    rcases hc with rfl | rfl | rfl | rfl | rfl | rfl | rfl | rfl | rfl | rfl | rfl | rfl | rfl | rfl | rfl | rfl | rfl | rfl | rfl | rfl | rfl | rfl | rfl | rfl | rfl | rfl | rfl | rfl | rfl | rfl | rfl | rfl | rfl | rfl | rfl | rfl
    · exact rValid_0 a b p w
    · exact rValid_1 a b p w
    · exact rValid_2 a b p w
    · exact rValid_3 a b p w
    · exact rValid_4 a b p w
    · exact rValid_5 a b p w
    · exact rValid_6 a b p w
    · exact rValid_7 a b p w
    · exact rValid_8 a b p w
    · exact rValid_9 a b p w
    · exact rValid_10 a b p w
    · exact rValid_11 a b p w
    · exact rValid_12 a b p w
    · exact rValid_13 a b p w
    · exact rValid_14 a b p w
    · exact rValid_15 a b p w
    · exact rValid_16 a b p w
    · exact rValid_17 a b p w
    · exact rValid_18 a b p w
    · exact rValid_19 a b p w
    · exact rValid_20 a b p w
    · exact rValid_21 a b p w
    · exact rValid_22 a b p w
    · exact rValid_23 a b p w
    · exact rValid_24 a b p w
    · exact rValid_25 a b p w
    · exact rValid_26 a b p w
    · exact rValid_27 a b p w
    · exact rValid_28 a b p w
    · exact rValid_29 a b p w
    · exact rValid_30 a b p w
    · exact rValid_31 a b p w
    · exact rValid_32 a b p w
    · exact rValid_33 a b p w
    · exact rValid_34 a b p w
    · exact rValid_35 a b p w
  · have HV := hide (vld_bad (op := op) (a := a) (b := b) (p := p) (by omega))
    have hop2 : op < 0 ∨ (¬ op < 0 ∧ 35 < op) := by omega
    have Hop := hide (fun w => rOperands_bad op hop2 w)
    clear hop hop2
    go_enter Try.func13, Try.ntmps13
    go_wp2_with (go_at_call 33; refine (Hop.out _).mono ?_; rintro e ws ⟨rfl, rfl⟩)
    go_ret
    exact ⟨ret_b (by rw [HV.out]), by go_grown⟩
theorem rCost_bad (op a b : Int) (w : World) (hv : vld op a b false = false) :
    Calls Try.prog 11 #[.agg #[.int .i64 op, .int .i64 a, .int .i64 b]] w fun e w' => e = .returned (.tuple #[.int .i64 (costV op a b), .int .i64 (costE op a b)]) ∧ Below w.heap.size w w' := by
  have HV := hide hv
  have H1 := hide (show costV op a b = 0 by unfold costV; rw [hv]; rfl)
  have H2 := hide (show costE op a b = 1 by unfold costE; rw [hv]; rfl)
  clear hv
  go_enter Try.func11, Try.ntmps11
  go_wp2_with fail
  refine (rValid_any op a b false _).mono ?_
  rintro e w1 ⟨rfl, hb⟩
  rw [HV.out]
  have hz1 : w.heap.size + 1 ≤ w1.heap.size := by have := hb.size; simpa using this
  have c0 : w1.cell? ⟨w.heap.size, 0, none⟩ = some (.int .i64 op) := by rw [hb.cell (by simp)]; simp
  have c1 : w1.cell? ⟨w.heap.size, 1, none⟩ = some (.int .i64 a) := by rw [hb.cell (by simp)]; simp
  have hb1 : Below w.heap.size w w1 := Below.trans (by go_grown) (hb.mono (by simp))
  clear hb
  go_wp2_with fail
  go_ret2
  exact ⟨ret2_i (by rw [H1.out]) (by rw [H2.out]), hb1⟩
theorem rCost_0 (a b : Int) (w : World) (hv : vld 0 a b false = true) :
    Calls Try.prog 11 #[.agg #[.int .i64 0, .int .i64 a, .int .i64 b]] w fun e w' => e = .returned (.tuple #[.int .i64 (costV 0 a b), .int .i64 (costE 0 a b)]) ∧ Below w.heap.size w w' := by
  have HV := hide hv
  obtain ⟨a1, a2⟩ := vld_a _ a b hv
  have H1 := hide (show costV 0 a b = 1 by unfold costV; rw [hv]; simp [sp, sps])
  have H2 := hide (show costE 0 a b = 0 by unfold costE; rw [hv]; rfl)
  clear hv
  go_enter Try.func11, Try.ntmps11
  go_wp2_with fail
  refine (rValid_any 0 a b false _).mono ?_
  rintro e w1 ⟨rfl, hb⟩
  rw [HV.out]
  have hz1 : w.heap.size + 1 ≤ w1.heap.size := by have := hb.size; simpa using this
  have c0 : w1.cell? ⟨w.heap.size, 0, none⟩ = some (.int .i64 0) := by rw [hb.cell (by simp)]; simp
  have c1 : w1.cell? ⟨w.heap.size, 1, none⟩ = some (.int .i64 a) := by rw [hb.cell (by simp)]; simp
  have hb1 : Below w.heap.size w w1 := Below.trans (by go_grown) (hb.mono (by simp))
  clear hb
  go_wp2_with fail
  go_ret2
  exact ⟨ret2_i (by rw [H1.out]) (by rw [H2.out]), by go_grown⟩
theorem rCost_1 (a b : Int) (w : World) (hv : vld 1 a b false = true) :
    Calls Try.prog 11 #[.agg #[.int .i64 1, .int .i64 a, .int .i64 b]] w fun e w' => e = .returned (.tuple #[.int .i64 (costV 1 a b), .int .i64 (costE 1 a b)]) ∧ Below w.heap.size w w' := by
  have HV := hide hv
  obtain ⟨a1, a2⟩ := vld_a _ a b hv
  have H1 := hide (show costV 1 a b = 1 by unfold costV; rw [hv]; simp [sp, sps])
  have H2 := hide (show costE 1 a b = 0 by unfold costE; rw [hv]; rfl)
  clear hv
  go_enter Try.func11, Try.ntmps11
  go_wp2_with fail
  refine (rValid_any 1 a b false _).mono ?_
  rintro e w1 ⟨rfl, hb⟩
  rw [HV.out]
  have hz1 : w.heap.size + 1 ≤ w1.heap.size := by have := hb.size; simpa using this
  have c0 : w1.cell? ⟨w.heap.size, 0, none⟩ = some (.int .i64 1) := by rw [hb.cell (by simp)]; simp
  have c1 : w1.cell? ⟨w.heap.size, 1, none⟩ = some (.int .i64 a) := by rw [hb.cell (by simp)]; simp
  have hb1 : Below w.heap.size w w1 := Below.trans (by go_grown) (hb.mono (by simp))
  clear hb
  go_wp2_with fail
  go_ret2
  exact ⟨ret2_i (by rw [H1.out]) (by rw [H2.out]), by go_grown⟩
theorem rCost_2 (a b : Int) (w : World) (hv : vld 2 a b false = true) :
    Calls Try.prog 11 #[.agg #[.int .i64 2, .int .i64 a, .int .i64 b]] w fun e w' => e = .returned (.tuple #[.int .i64 (costV 2 a b), .int .i64 (costE 2 a b)]) ∧ Below w.heap.size w w' := by
  have HV := hide hv
  obtain ⟨a1, a2⟩ := vld_a _ a b hv
  have H1 := hide (show costV 2 a b = 1 by unfold costV; rw [hv]; simp [sp, sps])
  have H2 := hide (show costE 2 a b = 0 by unfold costE; rw [hv]; rfl)
  clear hv
  go_enter Try.func11, Try.ntmps11
  go_wp2_with fail
  refine (rValid_any 2 a b false _).mono ?_
  rintro e w1 ⟨rfl, hb⟩
  rw [HV.out]
  have hz1 : w.heap.size + 1 ≤ w1.heap.size := by have := hb.size; simpa using this
  have c0 : w1.cell? ⟨w.heap.size, 0, none⟩ = some (.int .i64 2) := by rw [hb.cell (by simp)]; simp
  have c1 : w1.cell? ⟨w.heap.size, 1, none⟩ = some (.int .i64 a) := by rw [hb.cell (by simp)]; simp
  have hb1 : Below w.heap.size w w1 := Below.trans (by go_grown) (hb.mono (by simp))
  clear hb
  go_wp2_with fail
  go_ret2
  exact ⟨ret2_i (by rw [H1.out]) (by rw [H2.out]), by go_grown⟩
theorem rCost_3 (a b : Int) (w : World) (hv : vld 3 a b false = true) :
    Calls Try.prog 11 #[.agg #[.int .i64 3, .int .i64 a, .int .i64 b]] w fun e w' => e = .returned (.tuple #[.int .i64 (costV 3 a b), .int .i64 (costE 3 a b)]) ∧ Below w.heap.size w w' := by
  have HV := hide hv
  obtain ⟨a1, a2⟩ := vld_a _ a b hv
  have H1 := hide (show costV 3 a b = 1 by unfold costV; rw [hv]; simp [sp, sps])
  have H2 := hide (show costE 3 a b = 0 by unfold costE; rw [hv]; rfl)
  clear hv
  go_enter Try.func11, Try.ntmps11
  go_wp2_with fail
  refine (rValid_any 3 a b false _).mono ?_
  rintro e w1 ⟨rfl, hb⟩
  rw [HV.out]
  have hz1 : w.heap.size + 1 ≤ w1.heap.size := by have := hb.size; simpa using this
  have c0 : w1.cell? ⟨w.heap.size, 0, none⟩ = some (.int .i64 3) := by rw [hb.cell (by simp)]; simp
  have c1 : w1.cell? ⟨w.heap.size, 1, none⟩ = some (.int .i64 a) := by rw [hb.cell (by simp)]; simp
  have hb1 : Below w.heap.size w w1 := Below.trans (by go_grown) (hb.mono (by simp))
  clear hb
  go_wp2_with fail
  go_ret2
  exact ⟨ret2_i (by rw [H1.out]) (by rw [H2.out]), by go_grown⟩
theorem rCost_4 (a b : Int) (w : World) (hv : vld 4 a b false = true) :
    Calls Try.prog 11 #[.agg #[.int .i64 4, .int .i64 a, .int .i64 b]] w fun e w' => e = .returned (.tuple #[.int .i64 (costV 4 a b), .int .i64 (costE 4 a b)]) ∧ Below w.heap.size w w' := by
  have HV := hide hv
  obtain ⟨a1, a2⟩ := vld_a _ a b hv
  have H1 := hide (show costV 4 a b = 1 by unfold costV; rw [hv]; simp [sp, sps])
  have H2 := hide (show costE 4 a b = 0 by unfold costE; rw [hv]; rfl)
  clear hv
  go_enter Try.func11, Try.ntmps11
  go_wp2_with fail
  refine (rValid_any 4 a b false _).mono ?_
  rintro e w1 ⟨rfl, hb⟩
  rw [HV.out]
  have hz1 : w.heap.size + 1 ≤ w1.heap.size := by have := hb.size; simpa using this
  have c0 : w1.cell? ⟨w.heap.size, 0, none⟩ = some (.int .i64 4) := by rw [hb.cell (by simp)]; simp
  have c1 : w1.cell? ⟨w.heap.size, 1, none⟩ = some (.int .i64 a) := by rw [hb.cell (by simp)]; simp
  have hb1 : Below w.heap.size w w1 := Below.trans (by go_grown) (hb.mono (by simp))
  clear hb
  go_wp2_with fail
  go_ret2
  exact ⟨ret2_i (by rw [H1.out]) (by rw [H2.out]), by go_grown⟩
theorem rCost_5 (a b : Int) (w : World) (hv : vld 5 a b false = true) :
    Calls Try.prog 11 #[.agg #[.int .i64 5, .int .i64 a, .int .i64 b]] w fun e w' => e = .returned (.tuple #[.int .i64 (costV 5 a b), .int .i64 (costE 5 a b)]) ∧ Below w.heap.size w w' := by
  have HV := hide hv
  obtain ⟨a1, a2⟩ := vld_a _ a b hv
  have H1 := hide (show costV 5 a b = 1 by unfold costV; rw [hv]; simp [sp, sps])
  have H2 := hide (show costE 5 a b = 0 by unfold costE; rw [hv]; rfl)
  clear hv
  go_enter Try.func11, Try.ntmps11
  go_wp2_with fail
  refine (rValid_any 5 a b false _).mono ?_
  rintro e w1 ⟨rfl, hb⟩
  rw [HV.out]
  have hz1 : w.heap.size + 1 ≤ w1.heap.size := by have := hb.size; simpa using this
  have c0 : w1.cell? ⟨w.heap.size, 0, none⟩ = some (.int .i64 5) := by rw [hb.cell (by simp)]; simp
  have c1 : w1.cell? ⟨w.heap.size, 1, none⟩ = some (.int .i64 a) := by rw [hb.cell (by simp)]; simp
  have hb1 : Below w.heap.size w w1 := Below.trans (by go_grown) (hb.mono (by simp))
  clear hb
  go_wp2_with fail
  go_ret2
  exact ⟨ret2_i (by rw [H1.out]) (by rw [H2.out]), by go_grown⟩
theorem rCost_6 (a b : Int) (w : World) (hv : vld 6 a b false = true) :
    Calls Try.prog 11 #[.agg #[.int .i64 6, .int .i64 a, .int .i64 b]] w fun e w' => e = .returned (.tuple #[.int .i64 (costV 6 a b), .int .i64 (costE 6 a b)]) ∧ Below w.heap.size w w' := by
  have HV := hide hv
  obtain ⟨a1, a2⟩ := vld_a _ a b hv
  have H1 := hide (show costV 6 a b = 1 by unfold costV; rw [hv]; simp [sp, sps])
  have H2 := hide (show costE 6 a b = 0 by unfold costE; rw [hv]; rfl)
  clear hv
  go_enter Try.func11, Try.ntmps11
  go_wp2_with fail
  refine (rValid_any 6 a b false _).mono ?_
  rintro e w1 ⟨rfl, hb⟩
  rw [HV.out]
  have hz1 : w.heap.size + 1 ≤ w1.heap.size := by have := hb.size; simpa using this
  have c0 : w1.cell? ⟨w.heap.size, 0, none⟩ = some (.int .i64 6) := by rw [hb.cell (by simp)]; simp
  have c1 : w1.cell? ⟨w.heap.size, 1, none⟩ = some (.int .i64 a) := by rw [hb.cell (by simp)]; simp
  have hb1 : Below w.heap.size w w1 := Below.trans (by go_grown) (hb.mono (by simp))
  clear hb
  go_wp2_with fail
  go_ret2
  exact ⟨ret2_i (by rw [H1.out]) (by rw [H2.out]), by go_grown⟩
theorem rCost_7 (a b : Int) (w : World) (hv : vld 7 a b false = true) :
    Calls Try.prog 11 #[.agg #[.int .i64 7, .int .i64 a, .int .i64 b]] w fun e w' => e = .returned (.tuple #[.int .i64 (costV 7 a b), .int .i64 (costE 7 a b)]) ∧ Below w.heap.size w w' := by
  have HV := hide hv
  obtain ⟨a1, a2⟩ := vld_a _ a b hv
  have H1 := hide (show costV 7 a b = 1 by unfold costV; rw [hv]; simp [sp, sps])
  have H2 := hide (show costE 7 a b = 0 by unfold costE; rw [hv]; rfl)
  clear hv
  go_enter Try.func11, Try.ntmps11
  go_wp2_with fail
  refine (rValid_any 7 a b false _).mono ?_
  rintro e w1 ⟨rfl, hb⟩
  rw [HV.out]
  have hz1 : w.heap.size + 1 ≤ w1.heap.size := by have := hb.size; simpa using this
  have c0 : w1.cell? ⟨w.heap.size, 0, none⟩ = some (.int .i64 7) := by rw [hb.cell (by simp)]; simp
  have c1 : w1.cell? ⟨w.heap.size, 1, none⟩ = some (.int .i64 a) := by rw [hb.cell (by simp)]; simp
  have hb1 : Below w.heap.size w w1 := Below.trans (by go_grown) (hb.mono (by simp))
  clear hb
  go_wp2_with fail
  go_ret2
  exact ⟨ret2_i (by rw [H1.out]) (by rw [H2.out]), by go_grown⟩
theorem rCost_8 (a b : Int) (w : World) (hv : vld 8 a b false = true) :
    Calls Try.prog 11 #[.agg #[.int .i64 8, .int .i64 a, .int .i64 b]] w fun e w' => e = .returned (.tuple #[.int .i64 (costV 8 a b), .int .i64 (costE 8 a b)]) ∧ Below w.heap.size w w' := by
  have HV := hide hv
  obtain ⟨a1, a2⟩ := vld_a _ a b hv
  have H1 := hide (show costV 8 a b = 3 by unfold costV; rw [hv]; simp [sp, sps])
  have H2 := hide (show costE 8 a b = 0 by unfold costE; rw [hv]; rfl)
  clear hv
  go_enter Try.func11, Try.ntmps11
  go_wp2_with fail
  refine (rValid_any 8 a b false _).mono ?_
  rintro e w1 ⟨rfl, hb⟩
  rw [HV.out]
  have hz1 : w.heap.size + 1 ≤ w1.heap.size := by have := hb.size; simpa using this
  have c0 : w1.cell? ⟨w.heap.size, 0, none⟩ = some (.int .i64 8) := by rw [hb.cell (by simp)]; simp
  have c1 : w1.cell? ⟨w.heap.size, 1, none⟩ = some (.int .i64 a) := by rw [hb.cell (by simp)]; simp
  have hb1 : Below w.heap.size w w1 := Below.trans (by go_grown) (hb.mono (by simp))
  clear hb
  go_wp2_with fail
  go_ret2
  exact ⟨ret2_i (by rw [H1.out]) (by rw [H2.out]), by go_grown⟩
theorem rCost_9 (a b : Int) (w : World) (hv : vld 9 a b false = true) :
    Calls Try.prog 11 #[.agg #[.int .i64 9, .int .i64 a, .int .i64 b]] w fun e w' => e = .returned (.tuple #[.int .i64 (costV 9 a b), .int .i64 (costE 9 a b)]) ∧ Below w.heap.size w w' := by
  have HV := hide hv
  obtain ⟨a1, a2⟩ := vld_a _ a b hv
  have H1 := hide (show costV 9 a b = 8 by unfold costV; rw [hv]; simp [sp, sps])
  have H2 := hide (show costE 9 a b = 0 by unfold costE; rw [hv]; rfl)
  clear hv
  go_enter Try.func11, Try.ntmps11
  go_wp2_with fail
  refine (rValid_any 9 a b false _).mono ?_
  rintro e w1 ⟨rfl, hb⟩
  rw [HV.out]
  have hz1 : w.heap.size + 1 ≤ w1.heap.size := by have := hb.size; simpa using this
  have c0 : w1.cell? ⟨w.heap.size, 0, none⟩ = some (.int .i64 9) := by rw [hb.cell (by simp)]; simp
  have c1 : w1.cell? ⟨w.heap.size, 1, none⟩ = some (.int .i64 a) := by rw [hb.cell (by simp)]; simp
  have hb1 : Below w.heap.size w w1 := Below.trans (by go_grown) (hb.mono (by simp))
  clear hb
  go_wp2_with fail
  go_ret2
  exact ⟨ret2_i (by rw [H1.out]) (by rw [H2.out]), by go_grown⟩
theorem rCost_10 (a b : Int) (w : World) (hv : vld 10 a b false = true) :
    Calls Try.prog 11 #[.agg #[.int .i64 10, .int .i64 a, .int .i64 b]] w fun e w' => e = .returned (.tuple #[.int .i64 (costV 10 a b), .int .i64 (costE 10 a b)]) ∧ Below w.heap.size w w' := by
  have HV := hide hv
  obtain ⟨a1, a2⟩ := vld_a _ a b hv
  have H1 := hide (show costV 10 a b = 1 by unfold costV; rw [hv]; simp [sp, sps])
  have H2 := hide (show costE 10 a b = 0 by unfold costE; rw [hv]; rfl)
  clear hv
  go_enter Try.func11, Try.ntmps11
  go_wp2_with fail
  refine (rValid_any 10 a b false _).mono ?_
  rintro e w1 ⟨rfl, hb⟩
  rw [HV.out]
  have hz1 : w.heap.size + 1 ≤ w1.heap.size := by have := hb.size; simpa using this
  have c0 : w1.cell? ⟨w.heap.size, 0, none⟩ = some (.int .i64 10) := by rw [hb.cell (by simp)]; simp
  have c1 : w1.cell? ⟨w.heap.size, 1, none⟩ = some (.int .i64 a) := by rw [hb.cell (by simp)]; simp
  have hb1 : Below w.heap.size w w1 := Below.trans (by go_grown) (hb.mono (by simp))
  clear hb
  go_wp2_with fail
  go_ret2
  exact ⟨ret2_i (by rw [H1.out]) (by rw [H2.out]), by go_grown⟩
theorem rCost_11 (a b : Int) (w : World) (hv : vld 11 a b false = true) :
    Calls Try.prog 11 #[.agg #[.int .i64 11, .int .i64 a, .int .i64 b]] w fun e w' => e = .returned (.tuple #[.int .i64 (costV 11 a b), .int .i64 (costE 11 a b)]) ∧ Below w.heap.size w w' := by
  have HV := hide hv
  obtain ⟨a1, a2⟩ := vld_a _ a b hv
  have H1 := hide (show costV 11 a b = 1 by unfold costV; rw [hv]; simp [sp, sps])
  have H2 := hide (show costE 11 a b = 0 by unfold costE; rw [hv]; rfl)
  clear hv
  go_enter Try.func11, Try.ntmps11
  go_wp2_with fail
  refine (rValid_any 11 a b false _).mono ?_
  rintro e w1 ⟨rfl, hb⟩
  rw [HV.out]
  have hz1 : w.heap.size + 1 ≤ w1.heap.size := by have := hb.size; simpa using this
  have c0 : w1.cell? ⟨w.heap.size, 0, none⟩ = some (.int .i64 11) := by rw [hb.cell (by simp)]; simp
  have c1 : w1.cell? ⟨w.heap.size, 1, none⟩ = some (.int .i64 a) := by rw [hb.cell (by simp)]; simp
  have hb1 : Below w.heap.size w w1 := Below.trans (by go_grown) (hb.mono (by simp))
  clear hb
  go_wp2_with fail
  go_ret2
  exact ⟨ret2_i (by rw [H1.out]) (by rw [H2.out]), by go_grown⟩
theorem rCost_12 (a b : Int) (w : World) (hv : vld 12 a b false = true) :
    Calls Try.prog 11 #[.agg #[.int .i64 12, .int .i64 a, .int .i64 b]] w fun e w' => e = .returned (.tuple #[.int .i64 (costV 12 a b), .int .i64 (costE 12 a b)]) ∧ Below w.heap.size w w' := by
  have HV := hide hv
  obtain ⟨a1, a2⟩ := vld_a _ a b hv
  have H1 := hide (show costV 12 a b = 1 by unfold costV; rw [hv]; simp [sp, sps])
  have H2 := hide (show costE 12 a b = 0 by unfold costE; rw [hv]; rfl)
  clear hv
  go_enter Try.func11, Try.ntmps11
  go_wp2_with fail
  refine (rValid_any 12 a b false _).mono ?_
  rintro e w1 ⟨rfl, hb⟩
  rw [HV.out]
  have hz1 : w.heap.size + 1 ≤ w1.heap.size := by have := hb.size; simpa using this
  have c0 : w1.cell? ⟨w.heap.size, 0, none⟩ = some (.int .i64 12) := by rw [hb.cell (by simp)]; simp
  have c1 : w1.cell? ⟨w.heap.size, 1, none⟩ = some (.int .i64 a) := by rw [hb.cell (by simp)]; simp
  have hb1 : Below w.heap.size w w1 := Below.trans (by go_grown) (hb.mono (by simp))
  clear hb
  go_wp2_with fail
  go_ret2
  exact ⟨ret2_i (by rw [H1.out]) (by rw [H2.out]), by go_grown⟩
theorem rCost_13 (a b : Int) (w : World) (hv : vld 13 a b false = true) :
    Calls Try.prog 11 #[.agg #[.int .i64 13, .int .i64 a, .int .i64 b]] w fun e w' => e = .returned (.tuple #[.int .i64 (costV 13 a b), .int .i64 (costE 13 a b)]) ∧ Below w.heap.size w w' := by
  have HV := hide hv
  obtain ⟨a1, a2⟩ := vld_a _ a b hv
  have H1 := hide (show costV 13 a b = 1 by unfold costV; rw [hv]; simp [sp, sps])
  have H2 := hide (show costE 13 a b = 0 by unfold costE; rw [hv]; rfl)
  clear hv
  go_enter Try.func11, Try.ntmps11
  go_wp2_with fail
  refine (rValid_any 13 a b false _).mono ?_
  rintro e w1 ⟨rfl, hb⟩
  rw [HV.out]
  have hz1 : w.heap.size + 1 ≤ w1.heap.size := by have := hb.size; simpa using this
  have c0 : w1.cell? ⟨w.heap.size, 0, none⟩ = some (.int .i64 13) := by rw [hb.cell (by simp)]; simp
  have c1 : w1.cell? ⟨w.heap.size, 1, none⟩ = some (.int .i64 a) := by rw [hb.cell (by simp)]; simp
  have hb1 : Below w.heap.size w w1 := Below.trans (by go_grown) (hb.mono (by simp))
  clear hb
  go_wp2_with fail
  go_ret2
  exact ⟨ret2_i (by rw [H1.out]) (by rw [H2.out]), by go_grown⟩
theorem rCost_14 (a b : Int) (w : World) (hv : vld 14 a b false = true) :
    Calls Try.prog 11 #[.agg #[.int .i64 14, .int .i64 a, .int .i64 b]] w fun e w' => e = .returned (.tuple #[.int .i64 (costV 14 a b), .int .i64 (costE 14 a b)]) ∧ Below w.heap.size w w' := by
  have HV := hide hv
  obtain ⟨a1, a2⟩ := vld_a _ a b hv
  have H1 := hide (show costV 14 a b = 12 by unfold costV; rw [hv]; simp [sp, sps])
  have H2 := hide (show costE 14 a b = 0 by unfold costE; rw [hv]; rfl)
  clear hv
  go_enter Try.func11, Try.ntmps11
  go_wp2_with fail
  refine (rValid_any 14 a b false _).mono ?_
  rintro e w1 ⟨rfl, hb⟩
  rw [HV.out]
  have hz1 : w.heap.size + 1 ≤ w1.heap.size := by have := hb.size; simpa using this
  have c0 : w1.cell? ⟨w.heap.size, 0, none⟩ = some (.int .i64 14) := by rw [hb.cell (by simp)]; simp
  have c1 : w1.cell? ⟨w.heap.size, 1, none⟩ = some (.int .i64 a) := by rw [hb.cell (by simp)]; simp
  have hb1 : Below w.heap.size w w1 := Below.trans (by go_grown) (hb.mono (by simp))
  clear hb
  go_wp2_with fail
  go_ret2
  exact ⟨ret2_i (by rw [H1.out]) (by rw [H2.out]), by go_grown⟩
theorem rCost_15 (a b : Int) (w : World) (hv : vld 15 a b false = true) :
    Calls Try.prog 11 #[.agg #[.int .i64 15, .int .i64 a, .int .i64 b]] w fun e w' => e = .returned (.tuple #[.int .i64 (costV 15 a b), .int .i64 (costE 15 a b)]) ∧ Below w.heap.size w w' := by
  have HV := hide hv
  obtain ⟨a1, a2⟩ := vld_a _ a b hv
  have H1 := hide (show costV 15 a b = 4 + a by unfold costV; rw [hv]; simp [sp, sps])
  have H2 := hide (show costE 15 a b = 0 by unfold costE; rw [hv]; rfl)
  clear hv
  go_enter Try.func11, Try.ntmps11
  go_wp2_with fail
  refine (rValid_any 15 a b false _).mono ?_
  rintro e w1 ⟨rfl, hb⟩
  rw [HV.out]
  have hz1 : w.heap.size + 1 ≤ w1.heap.size := by have := hb.size; simpa using this
  have c0 : w1.cell? ⟨w.heap.size, 0, none⟩ = some (.int .i64 15) := by rw [hb.cell (by simp)]; simp
  have c1 : w1.cell? ⟨w.heap.size, 1, none⟩ = some (.int .i64 a) := by rw [hb.cell (by simp)]; simp
  have hb1 : Below w.heap.size w w1 := Below.trans (by go_grown) (hb.mono (by simp))
  clear hb
  go_wp2_with fail
  go_ret2
  exact ⟨ret2_i (by rw [H1.out]) (by rw [H2.out]), by go_grown⟩
theorem rCost_16 (a b : Int) (w : World) (hv : vld 16 a b false = true) :
    Calls Try.prog 11 #[.agg #[.int .i64 16, .int .i64 a, .int .i64 b]] w fun e w' => e = .returned (.tuple #[.int .i64 (costV 16 a b), .int .i64 (costE 16 a b)]) ∧ Below w.heap.size w w' := by
  have HV := hide hv
  obtain ⟨a1, a2⟩ := vld_a _ a b hv
  have H1 := hide (show costV 16 a b = 4 + a by unfold costV; rw [hv]; simp [sp, sps])
  have H2 := hide (show costE 16 a b = 0 by unfold costE; rw [hv]; rfl)
  clear hv
  go_enter Try.func11, Try.ntmps11
  go_wp2_with fail
  refine (rValid_any 16 a b false _).mono ?_
  rintro e w1 ⟨rfl, hb⟩
  rw [HV.out]
  have hz1 : w.heap.size + 1 ≤ w1.heap.size := by have := hb.size; simpa using this
  have c0 : w1.cell? ⟨w.heap.size, 0, none⟩ = some (.int .i64 16) := by rw [hb.cell (by simp)]; simp
  have c1 : w1.cell? ⟨w.heap.size, 1, none⟩ = some (.int .i64 a) := by rw [hb.cell (by simp)]; simp
  have hb1 : Below w.heap.size w w1 := Below.trans (by go_grown) (hb.mono (by simp))
  clear hb
  go_wp2_with fail
  go_ret2
  exact ⟨ret2_i (by rw [H1.out]) (by rw [H2.out]), by go_grown⟩
theorem rCost_17 (a b : Int) (w : World) (hv : vld 17 a b false = true) :
    Calls Try.prog 11 #[.agg #[.int .i64 17, .int .i64 a, .int .i64 b]] w fun e w' => e = .returned (.tuple #[.int .i64 (costV 17 a b), .int .i64 (costE 17 a b)]) ∧ Below w.heap.size w w' := by
  have HV := hide hv
  obtain ⟨a1, a2⟩ := vld_a _ a b hv
  have H1 := hide (show costV 17 a b = 2 by unfold costV; rw [hv]; simp [sp, sps])
  have H2 := hide (show costE 17 a b = 0 by unfold costE; rw [hv]; rfl)
  clear hv
  go_enter Try.func11, Try.ntmps11
  go_wp2_with fail
  refine (rValid_any 17 a b false _).mono ?_
  rintro e w1 ⟨rfl, hb⟩
  rw [HV.out]
  have hz1 : w.heap.size + 1 ≤ w1.heap.size := by have := hb.size; simpa using this
  have c0 : w1.cell? ⟨w.heap.size, 0, none⟩ = some (.int .i64 17) := by rw [hb.cell (by simp)]; simp
  have c1 : w1.cell? ⟨w.heap.size, 1, none⟩ = some (.int .i64 a) := by rw [hb.cell (by simp)]; simp
  have hb1 : Below w.heap.size w w1 := Below.trans (by go_grown) (hb.mono (by simp))
  clear hb
  go_wp2_with fail
  go_ret2
  exact ⟨ret2_i (by rw [H1.out]) (by rw [H2.out]), by go_grown⟩
theorem rCost_18 (a b : Int) (w : World) (hv : vld 18 a b false = true) :
    Calls Try.prog 11 #[.agg #[.int .i64 18, .int .i64 a, .int .i64 b]] w fun e w' => e = .returned (.tuple #[.int .i64 (costV 18 a b), .int .i64 (costE 18 a b)]) ∧ Below w.heap.size w w' := by
  have HV := hide hv
  obtain ⟨a1, a2⟩ := vld_a _ a b hv
  have H1 := hide (show costV 18 a b = 3 by unfold costV; rw [hv]; simp [sp, sps])
  have H2 := hide (show costE 18 a b = 0 by unfold costE; rw [hv]; rfl)
  clear hv
  go_enter Try.func11, Try.ntmps11
  go_wp2_with fail
  refine (rValid_any 18 a b false _).mono ?_
  rintro e w1 ⟨rfl, hb⟩
  rw [HV.out]
  have hz1 : w.heap.size + 1 ≤ w1.heap.size := by have := hb.size; simpa using this
  have c0 : w1.cell? ⟨w.heap.size, 0, none⟩ = some (.int .i64 18) := by rw [hb.cell (by simp)]; simp
  have c1 : w1.cell? ⟨w.heap.size, 1, none⟩ = some (.int .i64 a) := by rw [hb.cell (by simp)]; simp
  have hb1 : Below w.heap.size w w1 := Below.trans (by go_grown) (hb.mono (by simp))
  clear hb
  go_wp2_with fail
  go_ret2
  exact ⟨ret2_i (by rw [H1.out]) (by rw [H2.out]), by go_grown⟩
theorem rCost_19 (a b : Int) (w : World) (hv : vld 19 a b false = true) :
    Calls Try.prog 11 #[.agg #[.int .i64 19, .int .i64 a, .int .i64 b]] w fun e w' => e = .returned (.tuple #[.int .i64 (costV 19 a b), .int .i64 (costE 19 a b)]) ∧ Below w.heap.size w w' := by
  have HV := hide hv
  obtain ⟨a1, a2⟩ := vld_a _ a b hv
  have H1 := hide (show costV 19 a b = 3 by unfold costV; rw [hv]; simp [sp, sps])
  have H2 := hide (show costE 19 a b = 0 by unfold costE; rw [hv]; rfl)
  clear hv
  go_enter Try.func11, Try.ntmps11
  go_wp2_with fail
  refine (rValid_any 19 a b false _).mono ?_
  rintro e w1 ⟨rfl, hb⟩
  rw [HV.out]
  have hz1 : w.heap.size + 1 ≤ w1.heap.size := by have := hb.size; simpa using this
  have c0 : w1.cell? ⟨w.heap.size, 0, none⟩ = some (.int .i64 19) := by rw [hb.cell (by simp)]; simp
  have c1 : w1.cell? ⟨w.heap.size, 1, none⟩ = some (.int .i64 a) := by rw [hb.cell (by simp)]; simp
  have hb1 : Below w.heap.size w w1 := Below.trans (by go_grown) (hb.mono (by simp))
  clear hb
  go_wp2_with fail
  go_ret2
  exact ⟨ret2_i (by rw [H1.out]) (by rw [H2.out]), by go_grown⟩
theorem rCost_20 (a b : Int) (w : World) (hv : vld 20 a b false = true) :
    Calls Try.prog 11 #[.agg #[.int .i64 20, .int .i64 a, .int .i64 b]] w fun e w' => e = .returned (.tuple #[.int .i64 (costV 20 a b), .int .i64 (costE 20 a b)]) ∧ Below w.heap.size w w' := by
  have HV := hide hv
  obtain ⟨a1, a2⟩ := vld_a _ a b hv
  have H1 := hide (show costV 20 a b = 4 by unfold costV; rw [hv]; simp [sp, sps])
  have H2 := hide (show costE 20 a b = 0 by unfold costE; rw [hv]; rfl)
  clear hv
  go_enter Try.func11, Try.ntmps11
  go_wp2_with fail
  refine (rValid_any 20 a b false _).mono ?_
  rintro e w1 ⟨rfl, hb⟩
  rw [HV.out]
  have hz1 : w.heap.size + 1 ≤ w1.heap.size := by have := hb.size; simpa using this
  have c0 : w1.cell? ⟨w.heap.size, 0, none⟩ = some (.int .i64 20) := by rw [hb.cell (by simp)]; simp
  have c1 : w1.cell? ⟨w.heap.size, 1, none⟩ = some (.int .i64 a) := by rw [hb.cell (by simp)]; simp
  have hb1 : Below w.heap.size w w1 := Below.trans (by go_grown) (hb.mono (by simp))
  clear hb
  go_wp2_with fail
  go_ret2
  exact ⟨ret2_i (by rw [H1.out]) (by rw [H2.out]), by go_grown⟩
theorem rCost_21 (a b : Int) (w : World) (hv : vld 21 a b false = true) :
    Calls Try.prog 11 #[.agg #[.int .i64 21, .int .i64 a, .int .i64 b]] w fun e w' => e = .returned (.tuple #[.int .i64 (costV 21 a b), .int .i64 (costE 21 a b)]) ∧ Below w.heap.size w w' := by
  have HV := hide hv
  obtain ⟨a1, a2⟩ := vld_a _ a b hv
  have H1 := hide (show costV 21 a b = 2 by unfold costV; rw [hv]; simp [sp, sps])
  have H2 := hide (show costE 21 a b = 0 by unfold costE; rw [hv]; rfl)
  clear hv
  go_enter Try.func11, Try.ntmps11
  go_wp2_with fail
  refine (rValid_any 21 a b false _).mono ?_
  rintro e w1 ⟨rfl, hb⟩
  rw [HV.out]
  have hz1 : w.heap.size + 1 ≤ w1.heap.size := by have := hb.size; simpa using this
  have c0 : w1.cell? ⟨w.heap.size, 0, none⟩ = some (.int .i64 21) := by rw [hb.cell (by simp)]; simp
  have c1 : w1.cell? ⟨w.heap.size, 1, none⟩ = some (.int .i64 a) := by rw [hb.cell (by simp)]; simp
  have hb1 : Below w.heap.size w w1 := Below.trans (by go_grown) (hb.mono (by simp))
  clear hb
  go_wp2_with fail
  go_ret2
  exact ⟨ret2_i (by rw [H1.out]) (by rw [H2.out]), by go_grown⟩
theorem rCost_22 (a b : Int) (w : World) (hv : vld 22 a b false = true) :
    Calls Try.prog 11 #[.agg #[.int .i64 22, .int .i64 a, .int .i64 b]] w fun e w' => e = .returned (.tuple #[.int .i64 (costV 22 a b), .int .i64 (costE 22 a b)]) ∧ Below w.heap.size w w' := by
  have HV := hide hv
  obtain ⟨a1, a2⟩ := vld_a _ a b hv
  have H1 := hide (show costV 22 a b = 2 by unfold costV; rw [hv]; simp [sp, sps])
  have H2 := hide (show costE 22 a b = 0 by unfold costE; rw [hv]; rfl)
  clear hv
  go_enter Try.func11, Try.ntmps11
  go_wp2_with fail
  refine (rValid_any 22 a b false _).mono ?_
  rintro e w1 ⟨rfl, hb⟩
  rw [HV.out]
  have hz1 : w.heap.size + 1 ≤ w1.heap.size := by have := hb.size; simpa using this
  have c0 : w1.cell? ⟨w.heap.size, 0, none⟩ = some (.int .i64 22) := by rw [hb.cell (by simp)]; simp
  have c1 : w1.cell? ⟨w.heap.size, 1, none⟩ = some (.int .i64 a) := by rw [hb.cell (by simp)]; simp
  have hb1 : Below w.heap.size w w1 := Below.trans (by go_grown) (hb.mono (by simp))
  clear hb
  go_wp2_with fail
  go_ret2
  exact ⟨ret2_i (by rw [H1.out]) (by rw [H2.out]), by go_grown⟩
theorem rCost_23 (a b : Int) (w : World) (hv : vld 23 a b false = true) :
    Calls Try.prog 11 #[.agg #[.int .i64 23, .int .i64 a, .int .i64 b]] w fun e w' => e = .returned (.tuple #[.int .i64 (costV 23 a b), .int .i64 (costE 23 a b)]) ∧ Below w.heap.size w w' := by
  have HV := hide hv
  obtain ⟨a1, a2⟩ := vld_a _ a b hv
  have H1 := hide (show costV 23 a b = 3 by unfold costV; rw [hv]; simp [sp, sps])
  have H2 := hide (show costE 23 a b = 0 by unfold costE; rw [hv]; rfl)
  clear hv
  go_enter Try.func11, Try.ntmps11
  go_wp2_with fail
  refine (rValid_any 23 a b false _).mono ?_
  rintro e w1 ⟨rfl, hb⟩
  rw [HV.out]
  have hz1 : w.heap.size + 1 ≤ w1.heap.size := by have := hb.size; simpa using this
  have c0 : w1.cell? ⟨w.heap.size, 0, none⟩ = some (.int .i64 23) := by rw [hb.cell (by simp)]; simp
  have c1 : w1.cell? ⟨w.heap.size, 1, none⟩ = some (.int .i64 a) := by rw [hb.cell (by simp)]; simp
  have hb1 : Below w.heap.size w w1 := Below.trans (by go_grown) (hb.mono (by simp))
  clear hb
  go_wp2_with fail
  go_ret2
  exact ⟨ret2_i (by rw [H1.out]) (by rw [H2.out]), by go_grown⟩
theorem rCost_24 (a b : Int) (w : World) (hv : vld 24 a b false = true) :
    Calls Try.prog 11 #[.agg #[.int .i64 24, .int .i64 a, .int .i64 b]] w fun e w' => e = .returned (.tuple #[.int .i64 (costV 24 a b), .int .i64 (costE 24 a b)]) ∧ Below w.heap.size w w' := by
  have HV := hide hv
  obtain ⟨a1, a2⟩ := vld_a _ a b hv
  have H1 := hide (show costV 24 a b = 2 by unfold costV; rw [hv]; simp [sp, sps])
  have H2 := hide (show costE 24 a b = 0 by unfold costE; rw [hv]; rfl)
  clear hv
  go_enter Try.func11, Try.ntmps11
  go_wp2_with fail
  refine (rValid_any 24 a b false _).mono ?_
  rintro e w1 ⟨rfl, hb⟩
  rw [HV.out]
  have hz1 : w.heap.size + 1 ≤ w1.heap.size := by have := hb.size; simpa using this
  have c0 : w1.cell? ⟨w.heap.size, 0, none⟩ = some (.int .i64 24) := by rw [hb.cell (by simp)]; simp
  have c1 : w1.cell? ⟨w.heap.size, 1, none⟩ = some (.int .i64 a) := by rw [hb.cell (by simp)]; simp
  have hb1 : Below w.heap.size w w1 := Below.trans (by go_grown) (hb.mono (by simp))
  clear hb
  go_wp2_with fail
  go_ret2
  exact ⟨ret2_i (by rw [H1.out]) (by rw [H2.out]), by go_grown⟩
theorem rCost_25 (a b : Int) (w : World) (hv : vld 25 a b false = true) :
    Calls Try.prog 11 #[.agg #[.int .i64 25, .int .i64 a, .int .i64 b]] w fun e w' => e = .returned (.tuple #[.int .i64 (costV 25 a b), .int .i64 (costE 25 a b)]) ∧ Below w.heap.size w w' := by
  have HV := hide hv
  obtain ⟨a1, a2⟩ := vld_a _ a b hv
  have H1 := hide (show costV 25 a b = 4 by unfold costV; rw [hv]; simp [sp, sps])
  have H2 := hide (show costE 25 a b = 0 by unfold costE; rw [hv]; rfl)
  clear hv
  go_enter Try.func11, Try.ntmps11
  go_wp2_with fail
  refine (rValid_any 25 a b false _).mono ?_
  rintro e w1 ⟨rfl, hb⟩
  rw [HV.out]
  have hz1 : w.heap.size + 1 ≤ w1.heap.size := by have := hb.size; simpa using this
  have c0 : w1.cell? ⟨w.heap.size, 0, none⟩ = some (.int .i64 25) := by rw [hb.cell (by simp)]; simp
  have c1 : w1.cell? ⟨w.heap.size, 1, none⟩ = some (.int .i64 a) := by rw [hb.cell (by simp)]; simp
  have hb1 : Below w.heap.size w w1 := Below.trans (by go_grown) (hb.mono (by simp))
  clear hb
  go_wp2_with fail
  go_ret2
  exact ⟨ret2_i (by rw [H1.out]) (by rw [H2.out]), by go_grown⟩
theorem rCost_26 (a b : Int) (w : World) (hv : vld 26 a b false = true) :
    Calls Try.prog 11 #[.agg #[.int .i64 26, .int .i64 a, .int .i64 b]] w fun e w' => e = .returned (.tuple #[.int .i64 (costV 26 a b), .int .i64 (costE 26 a b)]) ∧ Below w.heap.size w w' := by
  have HV := hide hv
  obtain ⟨a1, a2⟩ := vld_a _ a b hv
  have H1 := hide (show costV 26 a b = 6 by unfold costV; rw [hv]; simp [sp, sps])
  have H2 := hide (show costE 26 a b = 0 by unfold costE; rw [hv]; rfl)
  clear hv
  go_enter Try.func11, Try.ntmps11
  go_wp2_with fail
  refine (rValid_any 26 a b false _).mono ?_
  rintro e w1 ⟨rfl, hb⟩
  rw [HV.out]
  have hz1 : w.heap.size + 1 ≤ w1.heap.size := by have := hb.size; simpa using this
  have c0 : w1.cell? ⟨w.heap.size, 0, none⟩ = some (.int .i64 26) := by rw [hb.cell (by simp)]; simp
  have c1 : w1.cell? ⟨w.heap.size, 1, none⟩ = some (.int .i64 a) := by rw [hb.cell (by simp)]; simp
  have hb1 : Below w.heap.size w w1 := Below.trans (by go_grown) (hb.mono (by simp))
  clear hb
  go_wp2_with fail
  go_ret2
  exact ⟨ret2_i (by rw [H1.out]) (by rw [H2.out]), by go_grown⟩
theorem rCost_27 (a b : Int) (w : World) (hv : vld 27 a b false = true) :
    Calls Try.prog 11 #[.agg #[.int .i64 27, .int .i64 a, .int .i64 b]] w fun e w' => e = .returned (.tuple #[.int .i64 (costV 27 a b), .int .i64 (costE 27 a b)]) ∧ Below w.heap.size w w' := by
  have HV := hide hv
  obtain ⟨a1, a2⟩ := vld_a _ a b hv
  have H1 := hide (show costV 27 a b = 2 by unfold costV; rw [hv]; simp [sp, sps])
  have H2 := hide (show costE 27 a b = 0 by unfold costE; rw [hv]; rfl)
  clear hv
  go_enter Try.func11, Try.ntmps11
  go_wp2_with fail
  refine (rValid_any 27 a b false _).mono ?_
  rintro e w1 ⟨rfl, hb⟩
  rw [HV.out]
  have hz1 : w.heap.size + 1 ≤ w1.heap.size := by have := hb.size; simpa using this
  have c0 : w1.cell? ⟨w.heap.size, 0, none⟩ = some (.int .i64 27) := by rw [hb.cell (by simp)]; simp
  have c1 : w1.cell? ⟨w.heap.size, 1, none⟩ = some (.int .i64 a) := by rw [hb.cell (by simp)]; simp
  have hb1 : Below w.heap.size w w1 := Below.trans (by go_grown) (hb.mono (by simp))
  clear hb
  go_wp2_with fail
  go_ret2
  exact ⟨ret2_i (by rw [H1.out]) (by rw [H2.out]), by go_grown⟩
theorem rCost_28 (a b : Int) (w : World) (hv : vld 28 a b false = true) :
    Calls Try.prog 11 #[.agg #[.int .i64 28, .int .i64 a, .int .i64 b]] w fun e w' => e = .returned (.tuple #[.int .i64 (costV 28 a b), .int .i64 (costE 28 a b)]) ∧ Below w.heap.size w w' := by
  have HV := hide hv
  obtain ⟨a1, a2⟩ := vld_a _ a b hv
  have H1 := hide (show costV 28 a b = 3 by unfold costV; rw [hv]; simp [sp, sps])
  have H2 := hide (show costE 28 a b = 0 by unfold costE; rw [hv]; rfl)
  clear hv
  go_enter Try.func11, Try.ntmps11
  go_wp2_with fail
  refine (rValid_any 28 a b false _).mono ?_
  rintro e w1 ⟨rfl, hb⟩
  rw [HV.out]
  have hz1 : w.heap.size + 1 ≤ w1.heap.size := by have := hb.size; simpa using this
  have c0 : w1.cell? ⟨w.heap.size, 0, none⟩ = some (.int .i64 28) := by rw [hb.cell (by simp)]; simp
  have c1 : w1.cell? ⟨w.heap.size, 1, none⟩ = some (.int .i64 a) := by rw [hb.cell (by simp)]; simp
  have hb1 : Below w.heap.size w w1 := Below.trans (by go_grown) (hb.mono (by simp))
  clear hb
  go_wp2_with fail
  go_ret2
  exact ⟨ret2_i (by rw [H1.out]) (by rw [H2.out]), by go_grown⟩
theorem rCost_29 (a b : Int) (w : World) (hv : vld 29 a b false = true) :
    Calls Try.prog 11 #[.agg #[.int .i64 29, .int .i64 a, .int .i64 b]] w fun e w' => e = .returned (.tuple #[.int .i64 (costV 29 a b), .int .i64 (costE 29 a b)]) ∧ Below w.heap.size w w' := by
  have HV := hide hv
  obtain ⟨a1, a2⟩ := vld_a _ a b hv
  have H1 := hide (show costV 29 a b = 1 by unfold costV; rw [hv]; simp [sp, sps])
  have H2 := hide (show costE 29 a b = 0 by unfold costE; rw [hv]; rfl)
  clear hv
  go_enter Try.func11, Try.ntmps11
  go_wp2_with fail
  refine (rValid_any 29 a b false _).mono ?_
  rintro e w1 ⟨rfl, hb⟩
  rw [HV.out]
  have hz1 : w.heap.size + 1 ≤ w1.heap.size := by have := hb.size; simpa using this
  have c0 : w1.cell? ⟨w.heap.size, 0, none⟩ = some (.int .i64 29) := by rw [hb.cell (by simp)]; simp
  have c1 : w1.cell? ⟨w.heap.size, 1, none⟩ = some (.int .i64 a) := by rw [hb.cell (by simp)]; simp
  have hb1 : Below w.heap.size w w1 := Below.trans (by go_grown) (hb.mono (by simp))
  clear hb
  go_wp2_with fail
  go_ret2
  exact ⟨ret2_i (by rw [H1.out]) (by rw [H2.out]), by go_grown⟩
theorem rCost_30 (a b : Int) (w : World) (hv : vld 30 a b false = true) :
    Calls Try.prog 11 #[.agg #[.int .i64 30, .int .i64 a, .int .i64 b]] w fun e w' => e = .returned (.tuple #[.int .i64 (costV 30 a b), .int .i64 (costE 30 a b)]) ∧ Below w.heap.size w w' := by
  have HV := hide hv
  obtain ⟨a1, a2⟩ := vld_a _ a b hv
  have H1 := hide (show costV 30 a b = 2 by unfold costV; rw [hv]; simp [sp, sps])
  have H2 := hide (show costE 30 a b = 0 by unfold costE; rw [hv]; rfl)
  clear hv
  go_enter Try.func11, Try.ntmps11
  go_wp2_with fail
  refine (rValid_any 30 a b false _).mono ?_
  rintro e w1 ⟨rfl, hb⟩
  rw [HV.out]
  have hz1 : w.heap.size + 1 ≤ w1.heap.size := by have := hb.size; simpa using this
  have c0 : w1.cell? ⟨w.heap.size, 0, none⟩ = some (.int .i64 30) := by rw [hb.cell (by simp)]; simp
  have c1 : w1.cell? ⟨w.heap.size, 1, none⟩ = some (.int .i64 a) := by rw [hb.cell (by simp)]; simp
  have hb1 : Below w.heap.size w w1 := Below.trans (by go_grown) (hb.mono (by simp))
  clear hb
  go_wp2_with fail
  go_ret2
  exact ⟨ret2_i (by rw [H1.out]) (by rw [H2.out]), by go_grown⟩
theorem rCost_31 (a b : Int) (w : World) (hv : vld 31 a b false = true) :
    Calls Try.prog 11 #[.agg #[.int .i64 31, .int .i64 a, .int .i64 b]] w fun e w' => e = .returned (.tuple #[.int .i64 (costV 31 a b), .int .i64 (costE 31 a b)]) ∧ Below w.heap.size w w' := by
  have HV := hide hv
  obtain ⟨a1, a2⟩ := vld_a _ a b hv
  have H1 := hide (show costV 31 a b = 2 by unfold costV; rw [hv]; simp [sp, sps])
  have H2 := hide (show costE 31 a b = 0 by unfold costE; rw [hv]; rfl)
  clear hv
  go_enter Try.func11, Try.ntmps11
  go_wp2_with fail
  refine (rValid_any 31 a b false _).mono ?_
  rintro e w1 ⟨rfl, hb⟩
  rw [HV.out]
  have hz1 : w.heap.size + 1 ≤ w1.heap.size := by have := hb.size; simpa using this
  have c0 : w1.cell? ⟨w.heap.size, 0, none⟩ = some (.int .i64 31) := by rw [hb.cell (by simp)]; simp
  have c1 : w1.cell? ⟨w.heap.size, 1, none⟩ = some (.int .i64 a) := by rw [hb.cell (by simp)]; simp
  have hb1 : Below w.heap.size w w1 := Below.trans (by go_grown) (hb.mono (by simp))
  clear hb
  go_wp2_with fail
  go_ret2
  exact ⟨ret2_i (by rw [H1.out]) (by rw [H2.out]), by go_grown⟩
theorem rCost_32 (a b : Int) (w : World) (hv : vld 32 a b false = true) :
    Calls Try.prog 11 #[.agg #[.int .i64 32, .int .i64 a, .int .i64 b]] w fun e w' => e = .returned (.tuple #[.int .i64 (costV 32 a b), .int .i64 (costE 32 a b)]) ∧ Below w.heap.size w w' := by
  have HV := hide hv
  obtain ⟨a1, a2⟩ := vld_a _ a b hv
  have H1 := hide (show costV 32 a b = 4 by unfold costV; rw [hv]; simp [sp, sps])
  have H2 := hide (show costE 32 a b = 0 by unfold costE; rw [hv]; rfl)
  clear hv
  go_enter Try.func11, Try.ntmps11
  go_wp2_with fail
  refine (rValid_any 32 a b false _).mono ?_
  rintro e w1 ⟨rfl, hb⟩
  rw [HV.out]
  have hz1 : w.heap.size + 1 ≤ w1.heap.size := by have := hb.size; simpa using this
  have c0 : w1.cell? ⟨w.heap.size, 0, none⟩ = some (.int .i64 32) := by rw [hb.cell (by simp)]; simp
  have c1 : w1.cell? ⟨w.heap.size, 1, none⟩ = some (.int .i64 a) := by rw [hb.cell (by simp)]; simp
  have hb1 : Below w.heap.size w w1 := Below.trans (by go_grown) (hb.mono (by simp))
  clear hb
  go_wp2_with fail
  go_ret2
  exact ⟨ret2_i (by rw [H1.out]) (by rw [H2.out]), by go_grown⟩
theorem rCost_33 (a b : Int) (w : World) (hv : vld 33 a b false = true) :
    Calls Try.prog 11 #[.agg #[.int .i64 33, .int .i64 a, .int .i64 b]] w fun e w' => e = .returned (.tuple #[.int .i64 (costV 33 a b), .int .i64 (costE 33 a b)]) ∧ Below w.heap.size w w' := by
  have HV := hide hv
  obtain ⟨a1, a2⟩ := vld_a _ a b hv
  have H1 := hide (show costV 33 a b = 2 by unfold costV; rw [hv]; simp [sp, sps])
  have H2 := hide (show costE 33 a b = 0 by unfold costE; rw [hv]; rfl)
  clear hv
  go_enter Try.func11, Try.ntmps11
  go_wp2_with fail
  refine (rValid_any 33 a b false _).mono ?_
  rintro e w1 ⟨rfl, hb⟩
  rw [HV.out]
  have hz1 : w.heap.size + 1 ≤ w1.heap.size := by have := hb.size; simpa using this
  have c0 : w1.cell? ⟨w.heap.size, 0, none⟩ = some (.int .i64 33) := by rw [hb.cell (by simp)]; simp
  have c1 : w1.cell? ⟨w.heap.size, 1, none⟩ = some (.int .i64 a) := by rw [hb.cell (by simp)]; simp
  have hb1 : Below w.heap.size w w1 := Below.trans (by go_grown) (hb.mono (by simp))
  clear hb
  go_wp2_with fail
  go_ret2
  exact ⟨ret2_i (by rw [H1.out]) (by rw [H2.out]), by go_grown⟩
theorem rCost_34 (a b : Int) (w : World) (hv : vld 34 a b false = true) :
    Calls Try.prog 11 #[.agg #[.int .i64 34, .int .i64 a, .int .i64 b]] w fun e w' => e = .returned (.tuple #[.int .i64 (costV 34 a b), .int .i64 (costE 34 a b)]) ∧ Below w.heap.size w w' := by
  have HV := hide hv
  obtain ⟨a1, a2⟩ := vld_a _ a b hv
  have H1 := hide (show costV 34 a b = 1 by unfold costV; rw [hv]; simp [sp, sps])
  have H2 := hide (show costE 34 a b = 0 by unfold costE; rw [hv]; rfl)
  clear hv
  go_enter Try.func11, Try.ntmps11
  go_wp2_with fail
  refine (rValid_any 34 a b false _).mono ?_
  rintro e w1 ⟨rfl, hb⟩
  rw [HV.out]
  have hz1 : w.heap.size + 1 ≤ w1.heap.size := by have := hb.size; simpa using this
  have c0 : w1.cell? ⟨w.heap.size, 0, none⟩ = some (.int .i64 34) := by rw [hb.cell (by simp)]; simp
  have c1 : w1.cell? ⟨w.heap.size, 1, none⟩ = some (.int .i64 a) := by rw [hb.cell (by simp)]; simp
  have hb1 : Below w.heap.size w w1 := Below.trans (by go_grown) (hb.mono (by simp))
  clear hb
  go_wp2_with fail
  go_ret2
  exact ⟨ret2_i (by rw [H1.out]) (by rw [H2.out]), by go_grown⟩
theorem rCost_35 (a b : Int) (w : World) (hv : vld 35 a b false = true) :
    Calls Try.prog 11 #[.agg #[.int .i64 35, .int .i64 a, .int .i64 b]] w fun e w' => e = .returned (.tuple #[.int .i64 (costV 35 a b), .int .i64 (costE 35 a b)]) ∧ Below w.heap.size w w' := by
  have HV := hide hv
  obtain ⟨a1, a2⟩ := vld_a _ a b hv
  have H1 := hide (show costV 35 a b = 1 by unfold costV; rw [hv]; simp [sp, sps])
  have H2 := hide (show costE 35 a b = 0 by unfold costE; rw [hv]; rfl)
  clear hv
  go_enter Try.func11, Try.ntmps11
  go_wp2_with fail
  refine (rValid_any 35 a b false _).mono ?_
  rintro e w1 ⟨rfl, hb⟩
  rw [HV.out]
  have hz1 : w.heap.size + 1 ≤ w1.heap.size := by have := hb.size; simpa using this
  have c0 : w1.cell? ⟨w.heap.size, 0, none⟩ = some (.int .i64 35) := by rw [hb.cell (by simp)]; simp
  have c1 : w1.cell? ⟨w.heap.size, 1, none⟩ = some (.int .i64 a) := by rw [hb.cell (by simp)]; simp
  have hb1 : Below w.heap.size w w1 := Below.trans (by go_grown) (hb.mono (by simp))
  clear hb
  go_wp2_with fail
  go_ret2
  exact ⟨ret2_i (by rw [H1.out]) (by rw [H2.out]), by go_grown⟩
theorem rCost_any (op a b : Int) (w : World) :
    Calls Try.prog 11 #[.agg #[.int .i64 op, .int .i64 a, .int .i64 b]] w fun e w' => e = .returned (.tuple #[.int .i64 (costV op a b), .int .i64 (costE op a b)]) ∧ Below w.heap.size w w' := by
  cases hv : vld op a b false
  · exact rCost_bad op a b w hv
  · have hop := vld_op hv
    have hc : op = 0 ∨ op = 1 ∨ op = 2 ∨ op = 3 ∨ op = 4 ∨ op = 5 ∨ op = 6 ∨ op = 7 ∨ op = 8 ∨ op = 9 ∨ op = 10 ∨ op = 11 ∨ op = 12 ∨ op = 13 ∨ op = 14 ∨ op = 15 ∨ op = 16 ∨ op = 17 ∨ op = 18 ∨ op = 19 ∨ op = 20 ∨ op = 21 ∨ op = 22 ∨ op = 23 ∨ op = 24 ∨ op = 25 ∨ op = 26 ∨ op = 27 ∨ op = 28 ∨ op = 29 ∨ op = 30 ∨ op = 31 ∨ op = 32 ∨ op = 33 ∨ op = 34 ∨ op = 35 := by omega
    rcases hc with rfl | rfl | rfl | rfl | rfl | rfl | rfl | rfl | rfl | rfl | rfl | rfl | rfl | rfl | rfl | rfl | rfl | rfl | rfl | rfl | rfl | rfl | rfl | rfl | rfl | rfl | rfl | rfl | rfl | rfl | rfl | rfl | rfl | rfl | rfl | rfl
    · exact rCost_0 a b w hv
    · exact rCost_1 a b w hv
    · exact rCost_2 a b w hv
    · exact rCost_3 a b w hv
    · exact rCost_4 a b w hv
    · exact rCost_5 a b w hv
    · exact rCost_6 a b w hv
    · exact rCost_7 a b w hv
    · exact rCost_8 a b w hv
    · exact rCost_9 a b w hv
    · exact rCost_10 a b w hv
    · exact rCost_11 a b w hv
    · exact rCost_12 a b w hv
    · exact rCost_13 a b w hv
    · exact rCost_14 a b w hv
    · exact rCost_15 a b w hv
    · exact rCost_16 a b w hv
    · exact rCost_17 a b w hv
    · exact rCost_18 a b w hv
    · exact rCost_19 a b w hv
    · exact rCost_20 a b w hv
    · exact rCost_21 a b w hv
    · exact rCost_22 a b w hv
    · exact rCost_23 a b w hv
    · exact rCost_24 a b w hv
    · exact rCost_25 a b w hv
    · exact rCost_26 a b w hv
    · exact rCost_27 a b w hv
    · exact rCost_28 a b w hv
    · exact rCost_29 a b w hv
    · exact rCost_30 a b w hv
    · exact rCost_31 a b w hv
    · exact rCost_32 a b w hv
    · exact rCost_33 a b w hv
    · exact rCost_34 a b w hv
    · exact rCost_35 a b w hv
end Ec
end Go.Proofs.Yteeljnlepbnhkaa
