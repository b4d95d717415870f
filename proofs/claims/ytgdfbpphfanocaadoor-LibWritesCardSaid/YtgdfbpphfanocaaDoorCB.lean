/- Contracts of the rooms, of the lengths of numbers and of Contract, of the program and of the reference. -/
import Derived.Test.YtgdfbpphfanocaaDoorProg
import Derived.WalkKit
import Derived.WalkLawsBesides
import Derived.Handy
import Derived.Deep.QuietTactic
import Derived.BigQuiet
import Derived.KernelRfl
import Derived.Lib.QuietBelow
set_option linter.unusedVariables false
set_option linter.unusedSimpArgs false
namespace Go.Proofs.YtgdfbpphfanocaaDoor
open Go.RowKit Go.Sort
namespace Lc

structure Hid (p : Prop) : Prop where
  out : p
theorem hide {p : Prop} (h : p) : Hid p := ⟨h⟩
theorem ret_i {k : IntKind} {a b : Int} (h : a = b) : Ending.returned (.int k a) = .returned (.int k b) := by rw [h]
theorem ret2_i {k k2 : IntKind} {a b c d : Int} (h : a = b) (h2 : c = d) : Ending.returned (.tuple #[.int k a, .int k2 c]) = .returned (.tuple #[.int k b, .int k2 d]) := by rw [h, h2]
def rm (n : Int) : Bool := decide (1 ≤ n) && decide (n ≤ 32)
theorem rm_t {n : Int} (h : rm n = true) : 1 ≤ n ∧ n ≤ 32 := by unfold rm at h; simpa using h
theorem rm_no {n : Int} (h : rm n = false) : n < 1 ∨ (1 ≤ n ∧ 32 < n) := by
  unfold rm at h; simp only [Bool.and_eq_false_iff, decide_eq_false_iff_not] at h; omega
theorem isRoom_any (n : Int) (w : World) :
    Calls Tryd.prog 27 #[.int .i64 n] w fun e w' => e = .returned (.bool (rm n)) ∧ w = w' := by
  by_cases h1 : 1 ≤ n
  · go_enter Tryd.func27, Tryd.ntmps27
    go_wp2_with fail
    go_ret
    exact ⟨by simp [rm, h1], rfl⟩
  · go_enter Tryd.func27, Tryd.ntmps27
    go_wp2_with fail
    go_ret
    exact ⟨by simp [rm]; omega, rfl⟩
theorem rroom_any (n : Int) (w : World) :
    Calls Tryd.prog 28 #[.int .i64 n] w fun e w' => e = .returned (.bool (rm n)) ∧ w = w' := by
  by_cases h1 : 1 ≤ n
  · go_enter Tryd.func28, Tryd.ntmps28
    go_wp2_with fail
    go_ret
    exact ⟨by simp [rm, h1], rfl⟩
  · go_enter Tryd.func28, Tryd.ntmps28
    go_wp2_with fail
    go_ret
    exact ⟨by simp [rm]; omega, rfl⟩


end Lc
end Go.Proofs.YtgdfbpphfanocaaDoor
