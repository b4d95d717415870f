/- Contracts of floor, Floor and Ceil, of the program and of the reference. -/
import Derived.Test.YtlcgfhliaalccaaDoorRE
import Derived.Test.YtlcgfhliaalccaaDoorRs
set_option linter.unusedVariables false
set_option linter.unusedSimpArgs false
namespace Go.Proofs.YtlcgfhliaalccaaDoor
open Go.RowKit Go.Sort Rt
namespace Rc

theorem tdiv_bd9 (n g : Int) (hg : 1 ≤ g) (h1 : -9000000000000000000 ≤ n) (h2 : n ≤ 9000000000000000000) : -9000000000000000000 ≤ n.tdiv g ∧ n.tdiv g ≤ 9000000000000000000 := by
  by_cases c : 0 ≤ n
  · rw [Int.tdiv_eq_ediv_of_nonneg c]
    have := IntWalk.tdiv_le n g c hg; omega
  · have e : n.tdiv g = -((-n).tdiv g) := by rw [Int.neg_tdiv]; omega
    rw [e, Int.tdiv_eq_ediv_of_nonneg (by omega)]
    have := IntWalk.tdiv_le (-n) g (by omega) hg; omega

theorem floor_any (a b : Int) (w : World) (hb : 1 ≤ b) (h1 : -9000000000000000000 ≤ a) (h2 : a ≤ 9000000000000000000) :
    Calls Tryd.prog 28 #[.int .i64 a, .int .i64 b] w fun e w' => e = .returned (.int .i64 (a / b)) ∧ w = w' := by
  have e0 : (b == 0) = false := by simp; omega
  have t1 := tdiv_bd9 a b hb h1 h2
  have hf := hide (fdiv_neg a b hb)
  have hg := hide (fdiv_pos a b hb)
  by_cases c : a.tmod b < 0
  · by_cases c2 : 0 ≤ a
    · rw [Int.tmod_eq_emod_of_nonneg c2] at c
      have := Int.emod_nonneg a (b := b) (by omega)
      omega
    · go_enter Tryd.func28, Tryd.ntmps28
      go_wp2_with fail
      go_ret
      exact ⟨ret_i (hf.out c), rfl⟩
  · by_cases c2 : 0 ≤ a
    · have b1 := Int.emod_nonneg a (b := b) (by omega)
      clear c
      go_enter Tryd.func28, Tryd.ntmps28
      go_wp2_with fail
      go_ret
      exact ⟨ret_i (by first | rfl | exact Int.tdiv_eq_ediv_of_nonneg c2), rfl⟩
    · go_enter Tryd.func28, Tryd.ntmps28
      go_wp2_with fail
      go_ret
      exact ⟨ret_i (hg.out (by omega)), rfl⟩

theorem div_bd (a b : Int) (hb : 1 ≤ b) : (0 ≤ a → 0 ≤ a / b ∧ a / b ≤ a) ∧ (a ≤ 0 → a ≤ a / b ∧ a / b ≤ 0) := by
  refine ⟨fun h => IntWalk.tdiv_le a b h hb, fun h => ?_⟩
  have h1 := Int.mul_ediv_add_emod a b
  have h2 := Int.emod_nonneg a (b := b) (by omega)
  have h3 := Int.emod_lt_of_pos a (b := b) (by omega)
  constructor
  · by_cases c : a / b < a
    · have k : b * (a / b) ≤ b * (a - 1) := Int.mul_le_mul_of_nonneg_left (by omega) (by omega)
      have k2 : b * a ≤ 1 * a := Int.mul_le_mul_of_nonpos_right hb h
      rw [Int.mul_sub] at k
      omega
    · omega
  · by_cases c : 0 < a / b
    · have : b * 1 ≤ b * (a / b) := Int.mul_le_mul_of_nonneg_left (by omega) (by omega)
      omega
    · omega

theorem box_keep {F S : Int} {B : Nat} {w0 w' w2 : World} (h : w'.cell? ⟨B, 0, none⟩ = some (.int .i64 F) ∧ w'.cell? ⟨B, 1, none⟩ = some (.int .i64 S) ∧ Below (B + 1) w0 w' ∧ B + 1 ≤ w'.heap.size) (hb : Below w'.heap.size w' w2) :
    w2.cell? ⟨B, 0, none⟩ = some (.int .i64 F) ∧ w2.cell? ⟨B, 1, none⟩ = some (.int .i64 S) ∧ Below (B + 1) w0 w2 ∧ B + 1 ≤ w2.heap.size := by
  obtain ⟨h1, h2, h3, h4⟩ := h
  refine ⟨?_, ?_, h3.trans (hb.mono h4), Nat.le_trans h4 hb.size⟩
  · rw [hb.cell (by exact h4)]; exact h1
  · rw [hb.cell (by exact h4)]; exact h2

theorem ret2_i {k k2 : IntKind} {a b c d : Int} (h : a = b) (h2 : c = d) : Ending.returned (.tuple #[.int k a, .int k2 c]) = .returned (.tuple #[.int k b, .int k2 d]) := by rw [h, h2]

theorem Floor_any (n d : Int) (w : World) :
    Calls Tryd.prog 16 #[.agg #[.int .i64 n, .int .i64 d]] w fun e w' => e = .returned (.tuple #[.int .i64 (flo n d).v, .int .i64 (flo n d).e]) ∧ Below w.heap.size w w' := by
  cases hv : val n d
  · have HE := hide (show flo n d = ⟨0, 1⟩ by unfold flo; rw [hv]; rfl)
    have HV := hide hv
    clear hv
    go_enter Tryd.func16, Tryd.ntmps16
    go_wp2_with (go_at_call 10; refine (valid_any _ _ _).mono ?_; rintro e w1 ⟨rfl, hb1⟩; rw [HV.out])
    go_ret2
    exact ⟨ret2_i (by rw [HE.out]) (by rw [HE.out]), ((Below.refl _ _).alloc (Nat.le_refl _) _).trans (hb1.mono (by simp))⟩
  · have HE := hide (show flo n d = ⟨n / d, 0⟩ by unfold flo; rw [hv]; rfl)
    obtain ⟨v1, v2, v3, v4⟩ := val_bd hv
    have HV := hide hv
    have b1 := div_bd n d v1
    have b2 := div_bd (-n) d v1
    have b3 : -1000000000 ≤ n / d ∧ n / d ≤ 1000000000 := by
      by_cases c : 0 ≤ n
      · have := b1.1 c; omega
      · have := b1.2 (by omega); omega
    have b4 : -1000000000 ≤ -n / d ∧ -n / d ≤ 1000000000 := by
      by_cases c : 0 ≤ -n
      · have := b2.1 c; omega
      · have := b2.2 (by omega); omega
    clear hv b1 b2
    go_enter Tryd.func16, Tryd.ntmps16
    go_wp2_with (first
      | (go_at_call 10; refine (valid_any _ _ _).mono ?_; rintro e w1 ⟨rfl, hb1⟩; rw [HV.out]; have hk1 := box_keep (F := n) (S := d) (B := w.heap.size) ⟨by simp, by simp, Below.refl _ _, by simp⟩ hb1; clear hb1)
      | (go_at_call 28; refine (floor_any _ _ _ v1 (by omega) (by omega)).mono ?_; rintro e w2 ⟨rfl, rfl⟩))
    go_ret2
    exact ⟨ret2_i (by rw [HE.out]) (by rw [HE.out]), ((Below.refl _ _).alloc (Nat.le_refl _) _).trans (hk1.2.2.1.mono (by omega))⟩

end Rc
end Go.Proofs.YtlcgfhliaalccaaDoor
