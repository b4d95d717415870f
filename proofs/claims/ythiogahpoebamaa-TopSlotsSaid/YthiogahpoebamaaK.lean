/- The law's own look at the document's examples returns true. -/
import Derived.Test.YthiogahpoebamaaE
set_option linter.unusedVariables false
set_option linter.unusedSimpArgs false
namespace Go.Proofs.Ythiogahpoebamaa
open Go.RowKit Go.Sort Sup

theorem sane_any (w : World) : Calls Try.prog 16 #[] w fun e w' => e = .returned (.bool true) ∧ Below w.heap.size w w' := by
  go_enter Try.func16, Try.ntmps16
  go_wp2_with fail
  refine (least_ok 10 3 3 _ (by decide) (by omega) (by omega)).mono ?_
  rintro e w1 ⟨rfl, hb1⟩
  rw [show ah 10 3 3 = 0 by decide]
  have hk1 := box_keep (F := 10) (S := 3) (B := w.heap.size) ⟨by simp, by simp, Below.refl _ _, by simp⟩ hb1
  clear hb1
  go_wp2_with fail
  refine (least_ok 10 3 13 _ (by decide) (by omega) (by omega)).mono ?_
  rintro e w2 ⟨rfl, hb2⟩
  rw [show ah 10 3 13 = 7 by decide]
  have hk2 := box_keep hk1 hb2
  clear hb2 hk1
  go_wp2_with fail
  refine (when_ok 10 3 9 2 _ (by decide) (by omega) (by omega) (by omega) (by omega)).mono ?_
  rintro e w3 ⟨rfl, hb3⟩
  rw [show wn 10 3 9 2 = 14 by decide]
  have hk3 := box_keep hk2 hb3
  clear hb3 hk2
  go_wp2_with fail
  go_ret
  exact ⟨rfl, (((Below.refl w.heap.size w).alloc (Nat.le_refl _) _).trans (hk3.2.2.1.mono (by omega)))⟩
end Go.Proofs.Ythiogahpoebamaa
