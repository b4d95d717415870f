/-
  The statement SupplyBetter: for every two supplies and every window the law returns true.
  Conditions: none beyond those of the given row.
-/
import Derived.Test.YthiogahpoebamaaRows
import Derived.Test.YthiogahpoebamaaM
import Derived.Test.YthiogahpoebamaaK
import Derived.ProofKit
import Derived.OpenShut
import Derived.ShutString
import Derived.ChangeOld
import Derived.Lib.SmallJoins
set_option linter.unusedVariables false
set_option linter.unusedSimpArgs false
namespace Go.Proofs.Ythiogahpoebamaa.supplyBetter
open Go.ChangeShapes Go.WideShapes Go.ChangeAt Go.RowKit Go.Joins
open Go.ChangeMaps (open_string shut_string)
open Sup

/-- Better as a function of all supplies. -/
def beB (F S G T : Int) : Bool := if vld F S && vld G T then be F S G T (F * G + 1).toNat else false
def beE (F S G T : Int) : Int := if vld F S && vld G T then 0 else 1
theorem better_any (F S G T : Int) (w : World) :
    Calls Try.prog 28 #[.agg #[.int .i64 F, .int .i64 S], .agg #[.int .i64 G, .int .i64 T]] w fun e w' => e = .returned (.tuple #[.bool (beB F S G T), .int .i64 (beE F S G T)]) ∧ Below w.heap.size w w' := by
  by_cases h : (vld F S && vld G T) = true
  · have hh := h
    simp only [Bool.and_eq_true] at hh
    unfold beB beE; rw [if_pos h, if_pos h]; exact better_ok F S G T w hh.1 hh.2
  · unfold beB beE; rw [if_neg h, if_neg h]; exact better_no F S G T w (Bool.eq_false_iff.2 h)
theorem rbetter_any (F S G T : Int) (w : World) :
    Calls Try.prog 29 #[.agg #[.int .i64 F, .int .i64 S], .agg #[.int .i64 G, .int .i64 T]] w fun e w' => e = .returned (.tuple #[.bool (beB F S G T), .int .i64 (beE F S G T)]) ∧ Below w.heap.size w w' := by
  by_cases h : (vld F S && vld G T) = true
  · have hh := h
    simp only [Bool.and_eq_true] at hh
    unfold beB beE; rw [if_pos h, if_pos h]; exact rbetter_ok F S G T w hh.1 hh.2
  · unfold beB beE; rw [if_neg h, if_neg h]; exact rbetter_no F S G T w (Bool.eq_false_iff.2 h)
theorem box_keep2 {F S G T : Int} {B : Nat} {w0 w' w2 : World} (h : w'.cell? ⟨B, 0, none⟩ = some (.int .i64 F) ∧ w'.cell? ⟨B, 1, none⟩ = some (.int .i64 S) ∧ w'.cell? ⟨B + 1, 0, none⟩ = some (.int .i64 G) ∧ w'.cell? ⟨B + 1, 1, none⟩ = some (.int .i64 T) ∧ Below (B + 2) w0 w' ∧ B + 2 ≤ w'.heap.size) (hb : Below w'.heap.size w' w2) :
    w2.cell? ⟨B, 0, none⟩ = some (.int .i64 F) ∧ w2.cell? ⟨B, 1, none⟩ = some (.int .i64 S) ∧ w2.cell? ⟨B + 1, 0, none⟩ = some (.int .i64 G) ∧ w2.cell? ⟨B + 1, 1, none⟩ = some (.int .i64 T) ∧ Below (B + 2) w0 w2 ∧ B + 2 ≤ w2.heap.size := by
  obtain ⟨h1, h2, h3, h4, h5, h6⟩ := h
  refine ⟨?_, ?_, ?_, ?_, h5.trans (hb.mono h6), Nat.le_trans h6 hb.size⟩
  · rw [hb.cell (by show B < _; omega)]; exact h1
  · rw [hb.cell (by show B < _; omega)]; exact h2
  · rw [hb.cell (by show B + 1 < _; omega)]; exact h3
  · rw [hb.cell (by show B + 1 < _; omega)]; exact h4

/-- Least as a function of all arguments. -/
def leV (F S W : Int) : Int := if vld F S && decide (0 ≤ W) && decide (W ≤ 1000000) then ah F S W else 0
def leE (F S W : Int) : Int := if vld F S && decide (0 ≤ W) && decide (W ≤ 1000000) then 0 else 1
theorem least_any (F S W : Int) (w : World) :
    Calls Try.prog 17 #[.agg #[.int .i64 F, .int .i64 S], .int .i64 W] w fun e w' => e = .returned (.tuple #[.int .i64 (leV F S W), .int .i64 (leE F S W)]) ∧ Below w.heap.size w w' := by
  by_cases h : (vld F S && decide (0 ≤ W) && decide (W ≤ 1000000)) = true
  · have hh := h
    simp only [Bool.and_eq_true, decide_eq_true_eq] at hh
    unfold leV leE; rw [if_pos h, if_pos h]; exact least_ok F S W w hh.1.1 hh.1.2 hh.2
  · unfold leV leE; rw [if_neg h, if_neg h]; exact least_no F S W w (Bool.eq_false_iff.2 h)
theorem leE_mk {F S W : Int} (h : vld F S = true) (h1 : 0 ≤ W) (h2 : W ≤ 1000000) : leE F S W = 0 ∧ leV F S W = ah F S W := by
  unfold leE leV; rw [h]; simp [h1, h2]

set_option maxHeartbeats 4000000 in
theorem walk (F S G T W : Int) (w : World) (w0 : (Lit.int .i64 F).wf = true) (w1 : (Lit.int .i64 S).wf = true) (w2 : (Lit.int .i64 G).wf = true) (w3 : (Lit.int .i64 T).wf = true) (w4 : (Lit.int .i64 W).wf = true) :
    Calls Try.prog 9 #[.agg #[.int .i64 F, .int .i64 S], .agg #[.int .i64 G, .int .i64 T], .int .i64 W] w fun e w' => e = .returned (.bool true) ∧ Below w.heap.size w w' := by
  clear w0 w1 w2 w3 w4
  have q1 : (beB F S G T != beB F S G T) = false := by simp
  have q2 : (beE F S G T != beE F S G T) = false := by simp
  by_cases hv : vld F S = true
  · obtain ⟨h1, h2, h3, h4⟩ := vld_t hv
    have q3 : beB F S F S = true := by unfold beB; rw [hv]; exact be_self F S _
    have q4 : beE F S F S = 0 := by unfold beE; rw [hv]; rfl
    have q5 : 1 ≤ S → beB F (S - 1) F S = true := fun h => by unfold beB; rw [hv, vld_mk h1 h2 (by omega) (by omega)]; exact be_less F S _ (by omega) h (by omega)
    have q6 : 1 ≤ S → beE F (S - 1) F S = 0 := fun h => by unfold beE; rw [hv, vld_mk h1 h2 (by omega) (by omega)]; rfl
    by_cases hb : beB F S G T = true
    · have hu : vld G T = true := by
        cases e : vld G T
        · unfold beB at hb; rw [e, hv] at hb; simp at hb
        · rfl
      obtain ⟨g1, g2, g3, g4⟩ := vld_t hu
      have hf := fun w h => be_far F S G T (by omega) (by omega) h3 g3 (by unfold beB at hb; rw [hv, hu] at hb; exact hb) w h
      by_cases c1 : W < 0
      · clear hf
        by_cases c3 : 1 ≤ S
        · have q7 := q5 c3
          have q8 := q6 c3
          have Hv := hide hv
          clear q5 q6 hv
          go_enter Try.func9, Try.ntmps9
          go_wp2_with fail
          refine (better_any F S G T _).mono ?_
          rintro e w2 ⟨rfl, hb2⟩
          have hk2 := box_keep2 (F := F) (S := S) (G := G) (T := T) (B := w.heap.size) ⟨by simp, by simp, by simp, by simp, Below.refl _ _, by simp⟩ hb2
          clear hb2
          go_wp2_with (first
            | (go_at_call 29; refine (rbetter_any _ _ _ _ _).mono ?_; rintro e w2 ⟨rfl, hb2⟩; have hk2 := box_keep2 (F := F) (S := S) (G := G) (T := T) (B := w.heap.size) (by assumption) hb2; clear hb2)
            | (go_at_call 28; refine (better_any _ _ _ _ _).mono ?_; rintro e w2 ⟨rfl, hb2⟩; have hk2 := box_keep2 (F := F) (S := S) (G := G) (T := T) (B := w.heap.size) (by assumption) hb2; clear hb2)
            | (go_at_call 15; refine (rvalid_any _ _ _).mono ?_; rintro e w2 ⟨rfl, hb2⟩; rw [Hv.out]; have hk2 := box_keep2 (F := F) (S := S) (G := G) (T := T) (B := w.heap.size) (by assumption) hb2; clear hb2)
            | (go_at_call 16; refine (sane_any _).mono ?_; rintro e w2 ⟨rfl, hb2⟩; have hk2 := box_keep2 (F := F) (S := S) (G := G) (T := T) (B := w.heap.size) (by assumption) hb2; clear hb2))
          go_ret
          obtain ⟨-, -, -, -, hB, -⟩ := (by assumption : _ ∧ _ ∧ _ ∧ _ ∧ _ ∧ _)
          exact ⟨rfl, (below2 w _ _).trans (hB.mono (by omega))⟩
        · have Hv := hide hv
          clear q5 q6 hv
          go_enter Try.func9, Try.ntmps9
          go_wp2_with fail
          refine (better_any F S G T _).mono ?_
          rintro e w2 ⟨rfl, hb2⟩
          have hk2 := box_keep2 (F := F) (S := S) (G := G) (T := T) (B := w.heap.size) ⟨by simp, by simp, by simp, by simp, Below.refl _ _, by simp⟩ hb2
          clear hb2
          go_wp2_with (first
            | (go_at_call 29; refine (rbetter_any _ _ _ _ _).mono ?_; rintro e w2 ⟨rfl, hb2⟩; have hk2 := box_keep2 (F := F) (S := S) (G := G) (T := T) (B := w.heap.size) (by assumption) hb2; clear hb2)
            | (go_at_call 28; refine (better_any _ _ _ _ _).mono ?_; rintro e w2 ⟨rfl, hb2⟩; have hk2 := box_keep2 (F := F) (S := S) (G := G) (T := T) (B := w.heap.size) (by assumption) hb2; clear hb2)
            | (go_at_call 15; refine (rvalid_any _ _ _).mono ?_; rintro e w2 ⟨rfl, hb2⟩; rw [Hv.out]; have hk2 := box_keep2 (F := F) (S := S) (G := G) (T := T) (B := w.heap.size) (by assumption) hb2; clear hb2)
            | (go_at_call 16; refine (sane_any _).mono ?_; rintro e w2 ⟨rfl, hb2⟩; have hk2 := box_keep2 (F := F) (S := S) (G := G) (T := T) (B := w.heap.size) (by assumption) hb2; clear hb2))
          go_ret
          obtain ⟨-, -, -, -, hB, -⟩ := (by assumption : _ ∧ _ ∧ _ ∧ _ ∧ _ ∧ _)
          exact ⟨rfl, (below2 w _ _).trans (hB.mono (by omega))⟩
      · by_cases c2 : 1000000 < W
        · clear hf
          by_cases c3 : 1 ≤ S
          · have q7 := q5 c3
            have q8 := q6 c3
            have Hv := hide hv
            clear q5 q6 hv
            go_enter Try.func9, Try.ntmps9
            go_wp2_with fail
            refine (better_any F S G T _).mono ?_
            rintro e w2 ⟨rfl, hb2⟩
            have hk2 := box_keep2 (F := F) (S := S) (G := G) (T := T) (B := w.heap.size) ⟨by simp, by simp, by simp, by simp, Below.refl _ _, by simp⟩ hb2
            clear hb2
            go_wp2_with (first
              | (go_at_call 29; refine (rbetter_any _ _ _ _ _).mono ?_; rintro e w2 ⟨rfl, hb2⟩; have hk2 := box_keep2 (F := F) (S := S) (G := G) (T := T) (B := w.heap.size) (by assumption) hb2; clear hb2)
              | (go_at_call 28; refine (better_any _ _ _ _ _).mono ?_; rintro e w2 ⟨rfl, hb2⟩; have hk2 := box_keep2 (F := F) (S := S) (G := G) (T := T) (B := w.heap.size) (by assumption) hb2; clear hb2)
              | (go_at_call 15; refine (rvalid_any _ _ _).mono ?_; rintro e w2 ⟨rfl, hb2⟩; rw [Hv.out]; have hk2 := box_keep2 (F := F) (S := S) (G := G) (T := T) (B := w.heap.size) (by assumption) hb2; clear hb2)
              | (go_at_call 16; refine (sane_any _).mono ?_; rintro e w2 ⟨rfl, hb2⟩; have hk2 := box_keep2 (F := F) (S := S) (G := G) (T := T) (B := w.heap.size) (by assumption) hb2; clear hb2))
            go_ret
            obtain ⟨-, -, -, -, hB, -⟩ := (by assumption : _ ∧ _ ∧ _ ∧ _ ∧ _ ∧ _)
            exact ⟨rfl, (below2 w _ _).trans (hB.mono (by omega))⟩
          · have Hv := hide hv
            clear q5 q6 hv
            go_enter Try.func9, Try.ntmps9
            go_wp2_with fail
            refine (better_any F S G T _).mono ?_
            rintro e w2 ⟨rfl, hb2⟩
            have hk2 := box_keep2 (F := F) (S := S) (G := G) (T := T) (B := w.heap.size) ⟨by simp, by simp, by simp, by simp, Below.refl _ _, by simp⟩ hb2
            clear hb2
            go_wp2_with (first
              | (go_at_call 29; refine (rbetter_any _ _ _ _ _).mono ?_; rintro e w2 ⟨rfl, hb2⟩; have hk2 := box_keep2 (F := F) (S := S) (G := G) (T := T) (B := w.heap.size) (by assumption) hb2; clear hb2)
              | (go_at_call 28; refine (better_any _ _ _ _ _).mono ?_; rintro e w2 ⟨rfl, hb2⟩; have hk2 := box_keep2 (F := F) (S := S) (G := G) (T := T) (B := w.heap.size) (by assumption) hb2; clear hb2)
              | (go_at_call 15; refine (rvalid_any _ _ _).mono ?_; rintro e w2 ⟨rfl, hb2⟩; rw [Hv.out]; have hk2 := box_keep2 (F := F) (S := S) (G := G) (T := T) (B := w.heap.size) (by assumption) hb2; clear hb2)
              | (go_at_call 16; refine (sane_any _).mono ?_; rintro e w2 ⟨rfl, hb2⟩; have hk2 := box_keep2 (F := F) (S := S) (G := G) (T := T) (B := w.heap.size) (by assumption) hb2; clear hb2))
            go_ret
            obtain ⟨-, -, -, -, hB, -⟩ := (by assumption : _ ∧ _ ∧ _ ∧ _ ∧ _ ∧ _)
            exact ⟨rfl, (below2 w _ _).trans (hB.mono (by omega))⟩
        · have i1 := hf W (by omega)
          clear hf
          by_cases c3 : 1 ≤ S
          · have q7 := q5 c3
            have q8 := q6 c3
            obtain ⟨l1, l2⟩ := leE_mk (F := F) (S := S) (W := W) (by assumption) (by omega) (by omega)
            obtain ⟨l3, l4⟩ := leE_mk (F := G) (S := T) (W := W) hu (by omega) (by omega)
            have l5 : leV G T W ≤ leV F S W := by rw [l2, l4]; exact i1
            have Hu := hide hu
            clear l2 l4 i1 hu
            have Hv := hide hv
            clear q5 q6 hv
            go_enter Try.func9, Try.ntmps9
            go_wp2_with fail
            refine (better_any F S G T _).mono ?_
            rintro e w2 ⟨rfl, hb2⟩
            have hk2 := box_keep2 (F := F) (S := S) (G := G) (T := T) (B := w.heap.size) ⟨by simp, by simp, by simp, by simp, Below.refl _ _, by simp⟩ hb2
            clear hb2
            go_wp2_with (first
              | (go_at_call 29; refine (rbetter_any _ _ _ _ _).mono ?_; rintro e w2 ⟨rfl, hb2⟩; have hk2 := box_keep2 (F := F) (S := S) (G := G) (T := T) (B := w.heap.size) (by assumption) hb2; clear hb2)
              | (go_at_call 28; refine (better_any _ _ _ _ _).mono ?_; rintro e w2 ⟨rfl, hb2⟩; have hk2 := box_keep2 (F := F) (S := S) (G := G) (T := T) (B := w.heap.size) (by assumption) hb2; clear hb2)
              | (go_at_call 15; refine (rvalid_any _ _ _).mono ?_; rintro e w2 ⟨rfl, hb2⟩; rw [Hv.out]; have hk2 := box_keep2 (F := F) (S := S) (G := G) (T := T) (B := w.heap.size) (by assumption) hb2; clear hb2)
              | (go_at_call 16; refine (sane_any _).mono ?_; rintro e w2 ⟨rfl, hb2⟩; have hk2 := box_keep2 (F := F) (S := S) (G := G) (T := T) (B := w.heap.size) (by assumption) hb2; clear hb2)
              | (go_at_call 17; refine (least_any _ _ _ _).mono ?_; rintro e w2 ⟨rfl, hb2⟩; have hk2 := box_keep2 (F := F) (S := S) (G := G) (T := T) (B := w.heap.size) (by assumption) hb2; clear hb2))
            go_ret
            obtain ⟨-, -, -, -, hB, -⟩ := (by assumption : _ ∧ _ ∧ _ ∧ _ ∧ _ ∧ _)
            exact ⟨rfl, (below2 w _ _).trans (hB.mono (by omega))⟩
          · have Hv := hide hv
            obtain ⟨l1, l2⟩ := leE_mk (F := F) (S := S) (W := W) (by assumption) (by omega) (by omega)
            obtain ⟨l3, l4⟩ := leE_mk (F := G) (S := T) (W := W) hu (by omega) (by omega)
            have l5 : leV G T W ≤ leV F S W := by rw [l2, l4]; exact i1
            have Hu := hide hu
            clear l2 l4 i1 hu
            clear q5 q6 hv
            go_enter Try.func9, Try.ntmps9
            go_wp2_with fail
            refine (better_any F S G T _).mono ?_
            rintro e w2 ⟨rfl, hb2⟩
            have hk2 := box_keep2 (F := F) (S := S) (G := G) (T := T) (B := w.heap.size) ⟨by simp, by simp, by simp, by simp, Below.refl _ _, by simp⟩ hb2
            clear hb2
            go_wp2_with (first
              | (go_at_call 29; refine (rbetter_any _ _ _ _ _).mono ?_; rintro e w2 ⟨rfl, hb2⟩; have hk2 := box_keep2 (F := F) (S := S) (G := G) (T := T) (B := w.heap.size) (by assumption) hb2; clear hb2)
              | (go_at_call 28; refine (better_any _ _ _ _ _).mono ?_; rintro e w2 ⟨rfl, hb2⟩; have hk2 := box_keep2 (F := F) (S := S) (G := G) (T := T) (B := w.heap.size) (by assumption) hb2; clear hb2)
              | (go_at_call 15; refine (rvalid_any _ _ _).mono ?_; rintro e w2 ⟨rfl, hb2⟩; rw [Hv.out]; have hk2 := box_keep2 (F := F) (S := S) (G := G) (T := T) (B := w.heap.size) (by assumption) hb2; clear hb2)
              | (go_at_call 16; refine (sane_any _).mono ?_; rintro e w2 ⟨rfl, hb2⟩; have hk2 := box_keep2 (F := F) (S := S) (G := G) (T := T) (B := w.heap.size) (by assumption) hb2; clear hb2)
              | (go_at_call 17; refine (least_any _ _ _ _).mono ?_; rintro e w2 ⟨rfl, hb2⟩; have hk2 := box_keep2 (F := F) (S := S) (G := G) (T := T) (B := w.heap.size) (by assumption) hb2; clear hb2))
            go_ret
            obtain ⟨-, -, -, -, hB, -⟩ := (by assumption : _ ∧ _ ∧ _ ∧ _ ∧ _ ∧ _)
            exact ⟨rfl, (below2 w _ _).trans (hB.mono (by omega))⟩
    · have hb : beB F S G T = false := Bool.eq_false_iff.2 hb
      by_cases c3 : 1 ≤ S
      · have q7 := q5 c3
        have q8 := q6 c3
        have Hv := hide hv
        clear q5 q6 hv
        go_enter Try.func9, Try.ntmps9
        go_wp2_with fail
        refine (better_any F S G T _).mono ?_
        rintro e w2 ⟨rfl, hb2⟩
        have hk2 := box_keep2 (F := F) (S := S) (G := G) (T := T) (B := w.heap.size) ⟨by simp, by simp, by simp, by simp, Below.refl _ _, by simp⟩ hb2
        clear hb2
        go_wp2_with (first
          | (go_at_call 29; refine (rbetter_any _ _ _ _ _).mono ?_; rintro e w2 ⟨rfl, hb2⟩; have hk2 := box_keep2 (F := F) (S := S) (G := G) (T := T) (B := w.heap.size) (by assumption) hb2; clear hb2)
          | (go_at_call 28; refine (better_any _ _ _ _ _).mono ?_; rintro e w2 ⟨rfl, hb2⟩; have hk2 := box_keep2 (F := F) (S := S) (G := G) (T := T) (B := w.heap.size) (by assumption) hb2; clear hb2)
          | (go_at_call 15; refine (rvalid_any _ _ _).mono ?_; rintro e w2 ⟨rfl, hb2⟩; rw [Hv.out]; have hk2 := box_keep2 (F := F) (S := S) (G := G) (T := T) (B := w.heap.size) (by assumption) hb2; clear hb2)
          | (go_at_call 16; refine (sane_any _).mono ?_; rintro e w2 ⟨rfl, hb2⟩; have hk2 := box_keep2 (F := F) (S := S) (G := G) (T := T) (B := w.heap.size) (by assumption) hb2; clear hb2))
        go_ret
        obtain ⟨-, -, -, -, hB, -⟩ := (by assumption : _ ∧ _ ∧ _ ∧ _ ∧ _ ∧ _)
        exact ⟨rfl, (below2 w _ _).trans (hB.mono (by omega))⟩
      · have Hv := hide hv
        clear q5 q6 hv
        go_enter Try.func9, Try.ntmps9
        go_wp2_with fail
        refine (better_any F S G T _).mono ?_
        rintro e w2 ⟨rfl, hb2⟩
        have hk2 := box_keep2 (F := F) (S := S) (G := G) (T := T) (B := w.heap.size) ⟨by simp, by simp, by simp, by simp, Below.refl _ _, by simp⟩ hb2
        clear hb2
        go_wp2_with (first
          | (go_at_call 29; refine (rbetter_any _ _ _ _ _).mono ?_; rintro e w2 ⟨rfl, hb2⟩; have hk2 := box_keep2 (F := F) (S := S) (G := G) (T := T) (B := w.heap.size) (by assumption) hb2; clear hb2)
          | (go_at_call 28; refine (better_any _ _ _ _ _).mono ?_; rintro e w2 ⟨rfl, hb2⟩; have hk2 := box_keep2 (F := F) (S := S) (G := G) (T := T) (B := w.heap.size) (by assumption) hb2; clear hb2)
          | (go_at_call 15; refine (rvalid_any _ _ _).mono ?_; rintro e w2 ⟨rfl, hb2⟩; rw [Hv.out]; have hk2 := box_keep2 (F := F) (S := S) (G := G) (T := T) (B := w.heap.size) (by assumption) hb2; clear hb2)
          | (go_at_call 16; refine (sane_any _).mono ?_; rintro e w2 ⟨rfl, hb2⟩; have hk2 := box_keep2 (F := F) (S := S) (G := G) (T := T) (B := w.heap.size) (by assumption) hb2; clear hb2))
        go_ret
        obtain ⟨-, -, -, -, hB, -⟩ := (by assumption : _ ∧ _ ∧ _ ∧ _ ∧ _ ∧ _)
        exact ⟨rfl, (below2 w _ _).trans (hB.mono (by omega))⟩
  · have hv : vld F S = false := Bool.eq_false_iff.2 hv
    have q3 : beB F S F S = false := by unfold beB; rw [hv]; rfl
    have q4 : beE F S F S = 1 := by unfold beE; rw [hv]; rfl
    have q5 : beB F S G T = false := by unfold beB; rw [hv]; rfl
    clear q1
    have Hv := hide hv
    clear hv
    go_enter Try.func9, Try.ntmps9
    go_wp2_with fail
    refine (better_any F S G T _).mono ?_
    rintro e w2 ⟨rfl, hb2⟩
    have hk2 := box_keep2 (F := F) (S := S) (G := G) (T := T) (B := w.heap.size) ⟨by simp, by simp, by simp, by simp, Below.refl _ _, by simp⟩ hb2
    clear hb2
    go_wp2_with (first
      | (go_at_call 29; refine (rbetter_any _ _ _ _ _).mono ?_; rintro e w2 ⟨rfl, hb2⟩; have hk2 := box_keep2 (F := F) (S := S) (G := G) (T := T) (B := w.heap.size) (by assumption) hb2; clear hb2)
      | (go_at_call 28; refine (better_any _ _ _ _ _).mono ?_; rintro e w2 ⟨rfl, hb2⟩; have hk2 := box_keep2 (F := F) (S := S) (G := G) (T := T) (B := w.heap.size) (by assumption) hb2; clear hb2)
      | (go_at_call 15; refine (rvalid_any _ _ _).mono ?_; rintro e w2 ⟨rfl, hb2⟩; rw [Hv.out]; have hk2 := box_keep2 (F := F) (S := S) (G := G) (T := T) (B := w.heap.size) (by assumption) hb2; clear hb2)
      | (go_at_call 16; refine (sane_any _).mono ?_; rintro e w2 ⟨rfl, hb2⟩; have hk2 := box_keep2 (F := F) (S := S) (G := G) (T := T) (B := w.heap.size) (by assumption) hb2; clear hb2))
    go_ret
    obtain ⟨-, -, -, -, hB, -⟩ := (by assumption : _ ∧ _ ∧ _ ∧ _ ∧ _ ∧ _)
    exact ⟨rfl, (below2 w _ _).trans (hB.mono (by omega))⟩

theorem own : ownKnob Try.prog.godebug = none := by kernel_rfl
theorem laidOut : laidOutB Try.prog = true := by kernel_rfl
theorem cells23 : Try.prog.cellsOf 23 = 2 := by kernel_rfl

set_option maxRecDepth 100000 in
theorem lifted (os : Os) (started : os.Started) (H : Type) (enc : TypeId × Value → H) :
    ReturnsInHanded {} Try.checked os 9 .any (Rows.supplyBetterSpec.pre6 enc Try.prog Try.f9 Rows.supplyBetterRow.domain false) (Rows.supplyBetterSpec.post enc Try.prog Try.f9 false true false false) := by
  refine returnsInHanded_of_change (C := Try.checked) own started (by kernel_rfl) Try.func9
    (ChangeSpec.witness6 (enc := enc) (C := Try.checked) false ⟨#[], #[.agg #[.int .i64 0, .int .i64 0], .agg #[.int .i64 0, .int .i64 0], .int .i64 0], []⟩ 8 (by kernel_rfl) (by kernel_rfl) (by kernel_rfl) (by kernel_rfl)) ?_
  intro W base args ds gs before hval0 hW hcnd _
  have hval : ∀ (j : Nat) t v, Try.f9.params[j]? = some t → args[j]? = some v → Value.okWide Try.prog W .any base t v := hval0
  have hW' := hW
  obtain ⟨p, q, hA0, hV, rfl, hfz, hnd⟩ := hW
  have hA : DataW.TrodAll enc Try.prog W 0 (fun _ => true) true Try.f9.params.toList args.toList ds p := hA0
  rw [Try.params9] at hA hval
  obtain ⟨v0, vs0, d0, ds0, p0, q0, hargs, rfl, rfl, h0, r0⟩ := trodAll_cons hA
  obtain ⟨v1, vs1, d1, ds1, p1, q1, rfl, rfl, rfl, h1, r1⟩ := trodAll_cons r0
  obtain ⟨v2, vs2, d2, ds2, p2, q2, rfl, rfl, rfl, h2, r2⟩ := trodAll_cons r1
  obtain ⟨rfl, rfl, rfl⟩ := trodAll_nil r2
  obtain rfl : args = #[v0, v1, v2] := by cases args; simp_all
  obtain ⟨rfl, rfl⟩ := trodVars_none hV
  have k0 := h0
  have lt0 : ∀ x ∈ p0, x.block < W.heap.size := by obtain ⟨m, hm⟩ := k0; exact DataW.trod_lt m _ _ _ hm
  obtain ⟨c0_0, c0_1, y0_0, y0_1, m0, rfl, hd0, hp0, hy0_0, hy0_1⟩ := open_agg2 Try.underlying23 (by kernel_rfl) cells23 (hval 0 23 v0 rfl rfl) h0
  obtain ⟨a0_0, e0_0, -, w0_0⟩ := DataW.trod_int Try.underlying3 hy0_0
  simp at e0_0
  subst e0_0
  obtain ⟨a0_1, e0_1, -, w0_1⟩ := DataW.trod_int Try.underlying3 hy0_1
  simp at e0_1
  subst e0_1
  clear hd0 hp0
  have k1 := h1
  have lt1 : ∀ x ∈ p1, x.block < W.heap.size := by obtain ⟨m, hm⟩ := k1; exact DataW.trod_lt m _ _ _ hm
  obtain ⟨c1_0, c1_1, y1_0, y1_1, m1, rfl, hd1, hp1, hy1_0, hy1_1⟩ := open_agg2 Try.underlying23 (by kernel_rfl) cells23 (hval 1 23 v1 rfl rfl) h1
  obtain ⟨a1_0, e1_0, -, w1_0⟩ := DataW.trod_int Try.underlying3 hy1_0
  simp at e1_0
  subst e1_0
  obtain ⟨a1_1, e1_1, -, w1_1⟩ := DataW.trod_int Try.underlying3 hy1_1
  simp at e1_1
  subst e1_1
  clear hd1 hp1
  obtain ⟨a2, rfl, rfl, rfl, w2⟩ := open_int Try.underlying3 (hval 2 3 v2 rfl rfl) h2
  clear hA0 hval0
  refine (walk a0_0 a0_1 a1_0 a1_1 a2 W w0_0 w0_1 w1_0 w1_1 w2).mono fun e W' ⟨he, bel⟩ => ?_
  subst he
  exact ⟨_, rfl, _, _, _, [], _, [], hW', trodAll_mk1 (shut_bool Try.underlying4 _), (trodAll_cons_mk (Below.trod laidOut (by kernel_rfl) (of_decide_eq_true (by kernel_rfl)) k0 bel lt0) (trodAll_cons_mk (Below.trod laidOut (by kernel_rfl) (of_decide_eq_true (by kernel_rfl)) k1 bel lt1) (trodAll_cons_mk (shut_int Try.underlying3 w2) trodAll_mk0))), rfl, bel.frame _, fun h => by cases h⟩

theorem over : Rows.supplyBetterRow.holds Try.pinned (OpenSpec.ofChange Rows.supplyBetterSpec) :=
  OpenClaim.holds_of_wide 9 Try.f9 rfl rfl rfl rfl rfl rfl rfl ⟨rfl, rfl, rfl, rfl, rfl⟩ rfl rfl rfl rfl rfl (by kernel_rfl) Try.func9 (by kernel_rfl)
    (of_decide_eq_true (by kernel_rfl)) (by unfold Func.isWrapper; first | (rw [if_pos (by decide +kernel)]; kernel_rfl) | (rw [if_neg (by decide +kernel)]; exact ⟨rfl, rfl⟩))
    (fun os started H enc _ => lifted os started H enc)

/-- the statement -/
theorem proved : Rows.SupplyBetterSaid := over
end Go.Proofs.Ythiogahpoebamaa.supplyBetter
