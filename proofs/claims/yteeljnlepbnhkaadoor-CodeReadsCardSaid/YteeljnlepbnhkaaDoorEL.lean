/- The reference: Valid, Cost. -/
import Derived.Test.YteeljnlepbnhkaaDoorEE
import Derived.Test.YteeljnlepbnhkaaDoorEF
import Derived.Test.YteeljnlepbnhkaaDoorEG
set_option linter.unusedVariables false
set_option linter.unusedSimpArgs false
namespace Go.Proofs.YteeljnlepbnhkaaDoor
open Go.RowKit Go.Sort
namespace Ec

theorem rValid_any (op a b : Int) (p : Bool) (w : World) :
    Calls Tryd.prog 51 #[.agg #[.int .i64 op, .int .i64 a, .int .i64 b], .bool p] w fun e w' => e = .returned (.bool (vld op a b p)) ∧ Below w.heap.size w w' := by
  by_cases hop : 0 ≤ op ∧ op < 36
  · have hc : op = 0 ∨ op = 1 ∨ op = 2 ∨ op = 3 ∨ op = 4 ∨ op = 5 ∨ op = 6 ∨ op = 7 ∨ op = 8 ∨ op = 9 ∨ op = 10 ∨ op = 11 ∨ op = 12 ∨ op = 13 ∨ op = 14 ∨ op = 15 ∨ op = 16 ∨ op = 17 ∨ op = 18 ∨ op = 19 ∨ op = 20 ∨ op = 21 ∨ op = 22 ∨ op = 23 ∨ op = 24 ∨ op = 25 ∨ op = 26 ∨ op = 27 ∨ op = 28 ∨ op = 29 ∨ op = 30 ∨ op = 31 ∨ op = 32 ∨ op = 33 ∨ op = 34 ∨ op = 35 := by omega
    rcases hc with rfl | rfl | rfl | rfl | rfl | rfl | rfl | rfl | rfl | rfl | rfl | rfl | rfl | rfl | rfl | rfl | rfl | rfl | rfl | rfl | rfl | rfl | rfl | rfl | rfl | rfl | rfl | rfl | rfl | rfl | rfl | rfl | rfl | rfl | rfl | rfl
    · exact rValid_0 a b p w
    · exact rValid_1 a b p w
    · exact rValid_2 a b p w
    · exact rValid_3 a b p w
    · exact rValid_4 a b p w
    · exact rValid_5 a b p w
    · exact rValid_6 a b p w
    · exact rValid_7 a b p w
    · exact rValid_8 a b p w
    · exact rValid_9 a b p w
    · exact rValid_10 a b p w
    · exact rValid_11 a b p w
    · exact rValid_12 a b p w
    · exact rValid_13 a b p w
    · exact rValid_14 a b p w
    · exact rValid_15 a b p w
    · exact rValid_16 a b p w
    · exact rValid_17 a b p w
    · exact rValid_18 a b p w
    · exact rValid_19 a b p w
    · exact rValid_20 a b p w
    · exact rValid_21 a b p w
    · exact rValid_22 a b p w
    · exact rValid_23 a b p w
    · exact rValid_24 a b p w
    · exact rValid_25 a b p w
    · exact rValid_26 a b p w
    · exact rValid_27 a b p w
    · exact rValid_28 a b p w
    · exact rValid_29 a b p w
    · exact rValid_30 a b p w
    · exact rValid_31 a b p w
    · exact rValid_32 a b p w
    · exact rValid_33 a b p w
    · exact rValid_34 a b p w
    · exact rValid_35 a b p w
  · have HV := hide (vld_bad (op := op) (a := a) (b := b) (p := p) (by omega))
    have hop2 : op < 0 ∨ (¬ op < 0 ∧ 35 < op) := by omega
    have Hop := hide (fun w => rOperands_bad op hop2 w)
    clear hop hop2
    go_enter Tryd.func51, Tryd.ntmps51
    go_wp2_with (go_at_call 22; refine (Hop.out _).mono ?_; rintro e ws ⟨rfl, rfl⟩)
    go_ret
    exact ⟨ret_b (by rw [HV.out]), by go_grown⟩
end Ec
end Go.Proofs.YteeljnlepbnhkaaDoor
