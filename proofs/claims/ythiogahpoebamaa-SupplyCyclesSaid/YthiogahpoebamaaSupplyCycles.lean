/-
  The statement SupplyCycles: for every supply and every cost the law returns true.
  Conditions: none beyond those of the given row.
-/
import Derived.Test.YthiogahpoebamaaRows
import Derived.Test.YthiogahpoebamaaM
import Derived.Test.YthiogahpoebamaaK
import Derived.ProofKit
import Derived.OpenShut
import Derived.ShutString
import Derived.ChangeOld
import Derived.Lib.SmallJoins
set_option linter.unusedVariables false
set_option linter.unusedSimpArgs false
namespace Go.Proofs.Ythiogahpoebamaa.supplyCycles
open Go.ChangeShapes Go.WideShapes Go.ChangeAt Go.RowKit Go.Joins
open Go.ChangeMaps (open_string shut_string)
open Sup

theorem walk (F S c : Int) (w : World) (w0 : (Lit.int .i64 F).wf = true) (w1 : (Lit.int .i64 S).wf = true) (w2 : (Lit.int .i64 c).wf = true) :
    Calls Try.prog 11 #[.agg #[.int .i64 F, .int .i64 S], .int .i64 c] w fun e w' => e = .returned (.bool true) ∧ Below w.heap.size w w' := by
  clear w0 w1 w2
  by_cases hv : vld F S = true
  · by_cases c1 : c < 0
    · have Hn := hide (show (vld F S && decide (0 ≤ c) && decide (c ≤ 1000000000)) = false by rw [hv]; simp; omega)
      clear hv c1
      go_enter Try.func11, Try.ntmps11
      go_wp2_with (first
        | (go_at_call 34; refine (cycle_no _ _ _ _ Hn.out).mono ?_; rintro e w2 ⟨rfl, hb2⟩; have hk2 := box_keep (F := F) (S := S) (B := w.heap.size) ⟨by simp, by simp, Below.refl _ _, by simp⟩ hb2; clear hb2)
        | (go_at_call 35; refine (rcycle_no _ _ _ _ Hn.out).mono ?_; rintro e w2 ⟨rfl, hb2⟩; have hk2 := box_keep (by assumption) hb2; clear hb2)
        | (go_at_call 16; refine (sane_any _).mono ?_; rintro e ws ⟨rfl, hbs⟩; have hks := box_keep (by assumption) hbs; clear hbs))
      go_ret
      obtain ⟨-, -, hB, -⟩ := (by assumption : _ ∧ _ ∧ _ ∧ _)
      exact ⟨rfl, ((Below.refl w.heap.size w).alloc (Nat.le_refl _) _).trans (hB.mono (by omega))⟩
    · by_cases c2 : 1000000000 < c
      · have Hn := hide (show (vld F S && decide (0 ≤ c) && decide (c ≤ 1000000000)) = false by rw [hv]; simp; omega)
        clear hv c1 c2
        go_enter Try.func11, Try.ntmps11
        go_wp2_with (first
          | (go_at_call 34; refine (cycle_no _ _ _ _ Hn.out).mono ?_; rintro e w2 ⟨rfl, hb2⟩; have hk2 := box_keep (F := F) (S := S) (B := w.heap.size) ⟨by simp, by simp, Below.refl _ _, by simp⟩ hb2; clear hb2)
          | (go_at_call 35; refine (rcycle_no _ _ _ _ Hn.out).mono ?_; rintro e w2 ⟨rfl, hb2⟩; have hk2 := box_keep (by assumption) hb2; clear hb2)
          | (go_at_call 16; refine (sane_any _).mono ?_; rintro e ws ⟨rfl, hbs⟩; have hks := box_keep (by assumption) hbs; clear hbs))
        go_ret
        obtain ⟨-, -, hB, -⟩ := (by assumption : _ ∧ _ ∧ _ ∧ _)
        exact ⟨rfl, ((Below.refl w.heap.size w).alloc (Nat.le_refl _) _).trans (hB.mono (by omega))⟩
      · by_cases c3 : S = 0
        · subst c3
          by_cases c4 : c ≤ 0
          · obtain rfl : c = 0 := by omega
            have Hv := hide hv
            have z1 := hide (show lo F (F - 0) (2 * 0) = 0 from rfl)
            have z2 := hide (show (0 : Int) - ah F 0 (0 + 0) = 0 by rw [Int.add_zero, ah_zero F 0 (by have := vld_t hv; omega) (by omega)]; rfl)
            clear hv c1 c2 c4
            go_enter Try.func11, Try.ntmps11
            go_wp2_with (first
              | (go_at_call 34; refine (cycle_ok _ _ _ _ Hv.out (by omega) (by omega) (by omega)).mono ?_; rintro e w2 ⟨rfl, hb2⟩; rw [z1.out]; have hk2 := box_keep (F := F) (S := 0) (B := w.heap.size) ⟨by simp, by simp, Below.refl _ _, by simp⟩ hb2; clear hb2)
              | (go_at_call 35; refine (rcycle_ok _ _ _ _ Hv.out (by omega) (by omega) (by omega)).mono ?_; rintro e w2 ⟨rfl, hb2⟩; rw [z1.out]; have hk2 := box_keep (by assumption) hb2; clear hb2)
              | (go_at_call 32; refine (coll_ok _ _ _ _ Hv.out (by omega) (by omega)).mono ?_; rintro e w2 ⟨rfl, hb2⟩; rw [z2.out]; have hk2 := box_keep (by assumption) hb2; clear hb2)
              | (go_at_call 16; refine (sane_any _).mono ?_; rintro e ws ⟨rfl, hbs⟩; have hks := box_keep (by assumption) hbs; clear hbs))
            go_ret
            obtain ⟨-, -, hB, -⟩ := (by assumption : _ ∧ _ ∧ _ ∧ _)
            exact ⟨rfl, ((Below.refl w.heap.size w).alloc (Nat.le_refl _) _).trans (hB.mono (by omega))⟩
          · have Hv := hide hv
            clear hv
            go_enter Try.func11, Try.ntmps11
            go_wp2_with (first
              | (go_at_call 34; refine (cycle_no2 _ _ _ Hv.out (by omega) (by omega)).mono ?_; rintro e w2 ⟨rfl, hb2⟩; have hk2 := box_keep (F := F) (S := 0) (B := w.heap.size) ⟨by simp, by simp, Below.refl _ _, by simp⟩ hb2; clear hb2)
              | (go_at_call 35; refine (rcycle_no2 _ _ _ Hv.out (by omega) (by omega)).mono ?_; rintro e w2 ⟨rfl, hb2⟩; have hk2 := box_keep (by assumption) hb2; clear hb2)
              | (go_at_call 16; refine (sane_any _).mono ?_; rintro e ws ⟨rfl, hbs⟩; have hks := box_keep (by assumption) hbs; clear hbs))
            go_ret
            obtain ⟨-, -, hB, -⟩ := (by assumption : _ ∧ _ ∧ _ ∧ _)
            exact ⟨rfl, ((Below.refl w.heap.size w).alloc (Nat.le_refl _) _).trans (hB.mono (by omega))⟩
        · obtain ⟨h1, h2, h3, h4⟩ := vld_t hv
          have Hv := hide hv
          clear hv
          by_cases c4 : c ≤ 0
          · obtain rfl : c = 0 := by omega
            have z1 := hide (show lo F (F - S) (2 * 0) = 0 from rfl)
            have z2 := hide (show (0 : Int) - ah F S (S + 0) = 0 by rw [Int.add_zero, ah_S F S h3 (by omega)]; rfl)
            clear c1 c2 c4
            go_enter Try.func11, Try.ntmps11
            go_wp2_with (first
              | (go_at_call 34; refine (cycle_ok _ _ _ _ Hv.out (by omega) (by omega) (by omega)).mono ?_; rintro e w2 ⟨rfl, hb2⟩; rw [z1.out]; have hk2 := box_keep (F := F) (S := S) (B := w.heap.size) ⟨by simp, by simp, Below.refl _ _, by simp⟩ hb2; clear hb2)
              | (go_at_call 35; refine (rcycle_ok _ _ _ _ Hv.out (by omega) (by omega) (by omega)).mono ?_; rintro e w2 ⟨rfl, hb2⟩; rw [z1.out]; have hk2 := box_keep (by assumption) hb2; clear hb2)
              | (go_at_call 32; refine (coll_ok _ _ _ _ Hv.out (by omega) (by omega)).mono ?_; rintro e w2 ⟨rfl, hb2⟩; rw [z2.out]; have hk2 := box_keep (by assumption) hb2; clear hb2)
              | (go_at_call 16; refine (sane_any _).mono ?_; rintro e ws ⟨rfl, hbs⟩; have hks := box_keep (by assumption) hbs; clear hbs))
            go_ret
            obtain ⟨-, -, hB, -⟩ := (by assumption : _ ∧ _ ∧ _ ∧ _)
            exact ⟨rfl, ((Below.refl w.heap.size w).alloc (Nat.le_refl _) _).trans (hB.mono (by omega))⟩
          · obtain ⟨k1, k2, k3⟩ := cyc_spec F S (2 * c) (by omega) (by omega) (by omega)
            have K2 := hide k2
            have K3 := hide k3
            have c5 : 1 ≤ c := by omega
            have k4 : lo F (F - S) (2 * c) ≤ 2 * c * 60 + 200 := by
              have := pl_bd F (F - S) (2 * c) h2 (by omega) (by omega) (by omega)
              unfold lo; rw [if_neg (by omega)]; omega
            clear k2 k3 c4
            generalize hlo : lo F (F - S) (2 * c) = a at *
            have Hlo := hide hlo
            clear hlo
            by_cases c6 : 1000000 < a
            · go_enter Try.func11, Try.ntmps11
              go_wp2_with (first
                | (go_at_call 34; refine (cycle_ok _ _ _ _ Hv.out (by omega) (by omega) (by omega)).mono ?_; rintro e w2 ⟨rfl, hb2⟩; rw [Hlo.out]; have hk2 := box_keep (F := F) (S := S) (B := w.heap.size) ⟨by simp, by simp, Below.refl _ _, by simp⟩ hb2; clear hb2)
                | (go_at_call 35; refine (rcycle_ok _ _ _ _ Hv.out (by omega) (by omega) (by omega)).mono ?_; rintro e w2 ⟨rfl, hb2⟩; rw [Hlo.out]; have hk2 := box_keep (by assumption) hb2; clear hb2)
                | (go_at_call 16; refine (sane_any _).mono ?_; rintro e ws ⟨rfl, hbs⟩; have hks := box_keep (by assumption) hbs; clear hbs))
              go_ret
              obtain ⟨-, -, hB, -⟩ := (by assumption : _ ∧ _ ∧ _ ∧ _)
              exact ⟨rfl, ((Below.refl w.heap.size w).alloc (Nat.le_refl _) _).trans (hB.mono (by omega))⟩
            · go_enter Try.func11, Try.ntmps11
              go_wp2_with (first
                | (go_at_call 34; refine (cycle_ok _ _ _ _ Hv.out (by omega) (by omega) (by omega)).mono ?_; rintro e w2 ⟨rfl, hb2⟩; rw [Hlo.out]; have hk2 := box_keep (F := F) (S := S) (B := w.heap.size) ⟨by simp, by simp, Below.refl _ _, by simp⟩ hb2; clear hb2)
                | (go_at_call 35; refine (rcycle_ok _ _ _ _ Hv.out (by omega) (by omega) (by omega)).mono ?_; rintro e w2 ⟨rfl, hb2⟩; rw [Hlo.out]; have hk2 := box_keep (by assumption) hb2; clear hb2)
                | (go_at_call 32; refine (coll_ok _ _ _ _ Hv.out (by omega) (by omega)).mono ?_; rintro e w2 ⟨rfl, hb2⟩; (first | rw [K2.out] | rw [K3.out]); have hk2 := box_keep (by assumption) hb2; clear hb2)
                | (go_at_call 16; refine (sane_any _).mono ?_; rintro e ws ⟨rfl, hbs⟩; have hks := box_keep (by assumption) hbs; clear hbs))
              go_ret
              obtain ⟨-, -, hB, -⟩ := (by assumption : _ ∧ _ ∧ _ ∧ _)
              exact ⟨rfl, ((Below.refl w.heap.size w).alloc (Nat.le_refl _) _).trans (hB.mono (by omega))⟩
  · have Hn := hide (show (vld F S && decide (0 ≤ c) && decide (c ≤ 1000000000)) = false by rw [Bool.eq_false_iff.2 hv]; rfl)
    clear hv
    go_enter Try.func11, Try.ntmps11
    go_wp2_with (first
      | (go_at_call 34; refine (cycle_no _ _ _ _ Hn.out).mono ?_; rintro e w2 ⟨rfl, hb2⟩; have hk2 := box_keep (F := F) (S := S) (B := w.heap.size) ⟨by simp, by simp, Below.refl _ _, by simp⟩ hb2; clear hb2)
      | (go_at_call 35; refine (rcycle_no _ _ _ _ Hn.out).mono ?_; rintro e w2 ⟨rfl, hb2⟩; have hk2 := box_keep (by assumption) hb2; clear hb2)
      | (go_at_call 16; refine (sane_any _).mono ?_; rintro e ws ⟨rfl, hbs⟩; have hks := box_keep (by assumption) hbs; clear hbs))
    go_ret
    obtain ⟨-, -, hB, -⟩ := (by assumption : _ ∧ _ ∧ _ ∧ _)
    exact ⟨rfl, ((Below.refl w.heap.size w).alloc (Nat.le_refl _) _).trans (hB.mono (by omega))⟩

theorem own : ownKnob Try.prog.godebug = none := by kernel_rfl
theorem laidOut : laidOutB Try.prog = true := by kernel_rfl
theorem cells23 : Try.prog.cellsOf 23 = 2 := by kernel_rfl

set_option maxRecDepth 100000 in
theorem lifted (os : Os) (started : os.Started) (H : Type) (enc : TypeId × Value → H) :
    ReturnsInHanded {} Try.checked os 11 .any (Rows.supplyCyclesSpec.pre6 enc Try.prog Try.f11 Rows.supplyCyclesRow.domain false) (Rows.supplyCyclesSpec.post enc Try.prog Try.f11 false true false false) := by
  refine returnsInHanded_of_change (C := Try.checked) own started (by kernel_rfl) Try.func11
    (ChangeSpec.witness6 (enc := enc) (C := Try.checked) false ⟨#[], #[.agg #[.int .i64 0, .int .i64 0], .int .i64 0], []⟩ 8 (by kernel_rfl) (by kernel_rfl) (by kernel_rfl) (by kernel_rfl)) ?_
  intro W base args ds gs before hval0 hW hcnd _
  have hval : ∀ (j : Nat) t v, Try.f11.params[j]? = some t → args[j]? = some v → Value.okWide Try.prog W .any base t v := hval0
  have hW' := hW
  obtain ⟨p, q, hA0, hV, rfl, hfz, hnd⟩ := hW
  have hA : DataW.TrodAll enc Try.prog W 0 (fun _ => true) true Try.f11.params.toList args.toList ds p := hA0
  rw [Try.params11] at hA hval
  obtain ⟨v0, vs0, d0, ds0, p0, q0, hargs, rfl, rfl, h0, r0⟩ := trodAll_cons hA
  obtain ⟨v1, vs1, d1, ds1, p1, q1, rfl, rfl, rfl, h1, r1⟩ := trodAll_cons r0
  obtain ⟨rfl, rfl, rfl⟩ := trodAll_nil r1
  obtain rfl : args = #[v0, v1] := by cases args; simp_all
  obtain ⟨rfl, rfl⟩ := trodVars_none hV
  have k0 := h0
  have lt0 : ∀ x ∈ p0, x.block < W.heap.size := by obtain ⟨m, hm⟩ := k0; exact DataW.trod_lt m _ _ _ hm
  obtain ⟨c0_0, c0_1, y0_0, y0_1, m0, rfl, hd0, hp0, hy0_0, hy0_1⟩ := open_agg2 Try.underlying23 (by kernel_rfl) cells23 (hval 0 23 v0 rfl rfl) h0
  obtain ⟨a0_0, e0_0, -, w0_0⟩ := DataW.trod_int Try.underlying3 hy0_0
  simp at e0_0
  subst e0_0
  obtain ⟨a0_1, e0_1, -, w0_1⟩ := DataW.trod_int Try.underlying3 hy0_1
  simp at e0_1
  subst e0_1
  clear hd0 hp0
  obtain ⟨a1, rfl, rfl, rfl, w1⟩ := open_int Try.underlying3 (hval 1 3 v1 rfl rfl) h1
  clear hA0 hval0
  refine (walk a0_0 a0_1 a1 W w0_0 w0_1 w1).mono fun e W' ⟨he, bel⟩ => ?_
  subst he
  exact ⟨_, rfl, _, _, _, [], _, [], hW', trodAll_mk1 (shut_bool Try.underlying4 _), (trodAll_cons_mk (Below.trod laidOut (by kernel_rfl) (of_decide_eq_true (by kernel_rfl)) k0 bel lt0) (trodAll_cons_mk (shut_int Try.underlying3 w1) trodAll_mk0)), rfl, bel.frame _, fun h => by cases h⟩

theorem over : Rows.supplyCyclesRow.holds Try.pinned (OpenSpec.ofChange Rows.supplyCyclesSpec) :=
  OpenClaim.holds_of_wide 11 Try.f11 rfl rfl rfl rfl rfl rfl rfl ⟨rfl, rfl, rfl, rfl, rfl⟩ rfl rfl rfl rfl rfl (by kernel_rfl) Try.func11 (by kernel_rfl)
    (of_decide_eq_true (by kernel_rfl)) (by unfold Func.isWrapper; first | (rw [if_pos (by decide +kernel)]; kernel_rfl) | (rw [if_neg (by decide +kernel)]; exact ⟨rfl, rfl⟩))
    (fun os started H enc _ => lifted os started H enc)

/-- the statement -/
theorem proved : Rows.SupplyCyclesSaid := over
end Go.Proofs.Ythiogahpoebamaa.supplyCycles
