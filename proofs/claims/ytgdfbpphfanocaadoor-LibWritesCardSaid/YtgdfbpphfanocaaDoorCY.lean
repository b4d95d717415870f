/- The law's own look at the document's example returns true. -/
import Derived.Test.YtgdfbpphfanocaaDoorCX
set_option linter.unusedVariables false
set_option linter.unusedSimpArgs false
namespace Go.Proofs.YtgdfbpphfanocaaDoor
open Go.RowKit Go.Sort
namespace Lc

def t1 : Nat → Cl := put zero 4 1 7
def t2 : Nat → Cl := put t1 4 5 8
theorem e1 : fnd zero 4 1 = (1, 1) := by decide
theorem e2 : fnd t1 4 5 = (2, 2) := by decide
theorem e3 : cnt t2 4 = 2 := by decide
theorem p1 : putE zero 4 1 = 0 := by decide
theorem p2 : putE t1 4 5 = 0 := by decide
theorem sane_any (w : World) : Calls Tryd.prog 13 #[] w fun e w' => e = .returned (.bool true) ∧ Below w.heap.size w w' := by
  go_enter Tryd.func13, Tryd.ntmps13
  go_wp2_with fail
  refine (New_ok 4 _ (by omega) (by omega)).mono ?_
  rintro e w1 ⟨rfl, hT, hb⟩
  go_wp2_with fail
  refine (Put_any _ _ 4 zero 1 7 _ hT (by omega) (by omega) (by omega) (by omega)).mono ?_
  rintro e w2 ⟨rfl, hT2, hc2⟩
  rw [e1, p1]
  have hb2 := hb.trans (hc2.below w.heap.size (Nat.le_refl _) hb.size)
  go_wp2_with fail
  refine (Put_any _ _ 4 t1 5 8 _ hT2 (by omega) (by omega) (by omega) (by omega)).mono ?_
  rintro e w3 ⟨rfl, hT3, hc3⟩
  rw [e2, p2]
  have hb3 := hb2.trans (hc3.below w.heap.size (Nat.le_refl _) hb2.size)
  go_wp2_with fail
  refine (Len_any _ _ 4 t2 _ hT3 (by omega) (by omega)).mono ?_
  rintro e w4 ⟨rfl, hb4⟩
  rw [e3]
  go_wp2_with fail
  go_ret
  exact ⟨rfl, hb3.trans (hb4.mono hb3.size)⟩
end Lc
end Go.Proofs.YtgdfbpphfanocaaDoor
