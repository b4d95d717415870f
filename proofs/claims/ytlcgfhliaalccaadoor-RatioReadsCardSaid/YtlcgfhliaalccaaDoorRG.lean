/- The law's own look at the document's example, and a lemma on worlds. -/
import Derived.Test.YtlcgfhliaalccaaDoorRF
set_option linter.unusedVariables false
set_option linter.unusedSimpArgs false
namespace Go.Proofs.YtlcgfhliaalccaaDoor
open Go.RowKit Go.Sort Rt
namespace Rc
theorem at_world {P : Program} {c : Code} {Q : Exit → Act → World → Prop} {a : Act} {X : World} (F : World → Prop) (hF : F X) (h : ∀ W, F W → c.wp P Q a W) : c.wp P Q a X := h X hF
theorem mk64 : mk 6 (-4) = ⟨-3, 2, 0⟩ := by kernel_rfl
theorem flo32 : flo (-3) 2 = ⟨-2, 0⟩ := by kernel_rfl
theorem val32 : val (-3) 2 = true := by kernel_rfl

theorem sane_any (w : World) : Calls Tryd.prog 8 #[] w fun e w' => e = .returned (.bool true) ∧ Below w.heap.size w w' := by
  go_enter Tryd.func8, Tryd.ntmps8
  go_wp2_with fail
  refine (make_any 6 (-4) _).mono ?_
  rintro e w1 ⟨rfl, hb⟩
  rw [mk64]
  have hz1 : w.heap.size + 0 ≤ w1.heap.size := by have := hb.size; (try simp at this); omega
  have hw1 : Below w.heap.size w w1 := Below.trans (by go_grown) (hb.mono (by (try simp); (try omega)))
  clear hb
  go_wp2_with fail
  refine (Floor_any (-3) 2 _).mono ?_
  rintro e w2 ⟨rfl, hb⟩
  rw [flo32]
  have hz2 : w1.heap.size + 1 ≤ w2.heap.size := by have := hb.size; (try simp at this); omega
  have d0_0 : w2.cell? ⟨w1.heap.size, 0, none⟩ = some (.int .i64 (-3)) := by rw [hb.cell (by (try simp); (try omega))]; simp
  have d0_1 : w2.cell? ⟨w1.heap.size, 1, none⟩ = some (.int .i64 2) := by rw [hb.cell (by (try simp); (try omega))]; simp
  have c0_0 := d0_0
  clear d0_0
  have c0_1 := d0_1
  clear d0_1
  have hw2 : Below w.heap.size w w2 := Below.trans (by go_grown) (hb.mono (by (try simp); (try omega)))
  clear hb hw1
  go_wp2_with fail
  refine (valid_any (-3) 2 _).mono ?_
  rintro e w3 ⟨rfl, hb⟩
  rw [val32]
  have hz3 : w2.heap.size + 0 ≤ w3.heap.size := by have := hb.size; (try simp at this); omega
  have d0_0 : w3.cell? ⟨w1.heap.size, 0, none⟩ = some (.int .i64 (-3)) := by rw [hb.cell (by (try simp); (try omega))]; first | exact c0_0 | (simp [cell_past, show w1.heap.size < w2.heap.size by omega, c0_0]; done)
  have d0_1 : w3.cell? ⟨w1.heap.size, 1, none⟩ = some (.int .i64 2) := by rw [hb.cell (by (try simp); (try omega))]; first | exact c0_1 | (simp [cell_past, show w1.heap.size < w2.heap.size by omega, c0_1]; done)
  clear c0_0 c0_1
  have c0_0 := d0_0
  clear d0_0
  have c0_1 := d0_1
  clear d0_1
  have hw3 : Below w.heap.size w w3 := Below.trans (by go_grown) (hb.mono (by (try simp); (try omega)))
  clear hb hw2
  go_wp2_with fail
  go_ret
  exact ⟨rfl, by go_grown⟩
end Rc
end Go.Proofs.YtlcgfhliaalccaaDoor
