/-
  The statement SupplyWindows: for every supply and every window the law returns true.
  Conditions: none beyond those of the given row.
-/
import Derived.Test.YthiogahpoebamaaRows
import Derived.Test.YthiogahpoebamaaQ
import Derived.Test.YthiogahpoebamaaK
import Derived.ProofKit
import Derived.OpenShut
import Derived.ShutString
import Derived.ChangeOld
import Derived.Lib.SmallJoins
set_option linter.unusedVariables false
set_option linter.unusedSimpArgs false
namespace Go.Proofs.Ythiogahpoebamaa.supplyWindows
open Go.ChangeShapes Go.WideShapes Go.ChangeAt Go.RowKit Go.Joins
open Go.ChangeMaps (open_string shut_string)
open Sup

theorem walk (F S W : Int) (w : World) (w0 : (Lit.int .i64 F).wf = true) (w1 : (Lit.int .i64 S).wf = true) (w2 : (Lit.int .i64 W).wf = true) :
    Calls Try.prog 10 #[.agg #[.int .i64 F, .int .i64 S], .int .i64 W] w fun e w' => e = .returned (.bool true) ∧ Below w.heap.size w w' := by
  clear w0 w1 w2
  have i0 : ∀ (x y : Int), (x == x) = true := fun x y => by simp
  clear i0
  by_cases hv : vld F S = true
  · by_cases c1 : W < 0
    · have Hn := hide (show (vld F S && decide (0 ≤ W) && decide (W ≤ 1000000)) = false by rw [hv]; simp; omega)
      clear hv c1
      go_enter Try.func10, Try.ntmps10
      go_wp2_with (first
        | (go_at_call 17; refine (least_no _ _ _ _ Hn.out).mono ?_; rintro e w2 ⟨rfl, hb2⟩; have hk2 := box_keep (F := F) (S := S) (B := w.heap.size) ⟨by simp, by simp, Below.refl _ _, by simp⟩ hb2; clear hb2)
        | (go_at_call 30; refine (rleast_no _ _ _ _ Hn.out).mono ?_; rintro e w2 ⟨rfl, hb2⟩; have hk2 := box_keep (by assumption) hb2; clear hb2)
        | (go_at_call 24; refine (most_no _ _ _ _ Hn.out).mono ?_; rintro e w2 ⟨rfl, hb2⟩; have hk2 := box_keep (by assumption) hb2; clear hb2)
        | (go_at_call 31; refine (rmost_no _ _ _ _ Hn.out).mono ?_; rintro e w2 ⟨rfl, hb2⟩; have hk2 := box_keep (by assumption) hb2; clear hb2)
        | (go_at_call 32; refine (coll_no _ _ _ _ Hn.out).mono ?_; rintro e w2 ⟨rfl, hb2⟩; have hk2 := box_keep (by assumption) hb2; clear hb2)
        | (go_at_call 33; refine (rcoll_no _ _ _ _ Hn.out).mono ?_; rintro e w2 ⟨rfl, hb2⟩; have hk2 := box_keep (by assumption) hb2; clear hb2)
        | (go_at_call 16; refine (sane_any _).mono ?_; rintro e ws ⟨rfl, hbs⟩; have hks := box_keep (by assumption) hbs; clear hbs))
      go_ret
      obtain ⟨-, -, hB, -⟩ := (by assumption : _ ∧ _ ∧ _ ∧ _)
      exact ⟨rfl, ((Below.refl w.heap.size w).alloc (Nat.le_refl _) _).trans (hB.mono (by omega))⟩
    · by_cases c2 : 1000000 < W
      · have Hn := hide (show (vld F S && decide (0 ≤ W) && decide (W ≤ 1000000)) = false by rw [hv]; simp; omega)
        clear hv c1 c2
        go_enter Try.func10, Try.ntmps10
        go_wp2_with (first
          | (go_at_call 17; refine (least_no _ _ _ _ Hn.out).mono ?_; rintro e w2 ⟨rfl, hb2⟩; have hk2 := box_keep (F := F) (S := S) (B := w.heap.size) ⟨by simp, by simp, Below.refl _ _, by simp⟩ hb2; clear hb2)
          | (go_at_call 30; refine (rleast_no _ _ _ _ Hn.out).mono ?_; rintro e w2 ⟨rfl, hb2⟩; have hk2 := box_keep (by assumption) hb2; clear hb2)
          | (go_at_call 24; refine (most_no _ _ _ _ Hn.out).mono ?_; rintro e w2 ⟨rfl, hb2⟩; have hk2 := box_keep (by assumption) hb2; clear hb2)
          | (go_at_call 31; refine (rmost_no _ _ _ _ Hn.out).mono ?_; rintro e w2 ⟨rfl, hb2⟩; have hk2 := box_keep (by assumption) hb2; clear hb2)
          | (go_at_call 32; refine (coll_no _ _ _ _ Hn.out).mono ?_; rintro e w2 ⟨rfl, hb2⟩; have hk2 := box_keep (by assumption) hb2; clear hb2)
          | (go_at_call 33; refine (rcoll_no _ _ _ _ Hn.out).mono ?_; rintro e w2 ⟨rfl, hb2⟩; have hk2 := box_keep (by assumption) hb2; clear hb2)
          | (go_at_call 16; refine (sane_any _).mono ?_; rintro e ws ⟨rfl, hbs⟩; have hks := box_keep (by assumption) hbs; clear hbs))
        go_ret
        obtain ⟨-, -, hB, -⟩ := (by assumption : _ ∧ _ ∧ _ ∧ _)
        exact ⟨rfl, ((Below.refl w.heap.size w).alloc (Nat.le_refl _) _).trans (hB.mono (by omega))⟩
      · obtain ⟨h1, h2, h3, h4⟩ := vld_t hv
        have i1 := ah_mono F S W (S + W) (by omega) h3 (by omega) (by omega)
        have b1 := ah_bd F S W h1 h2 h3 (by omega) (by omega)
        have b2 := ah_bd F S (S + W) h1 h2 h3 (by omega) (by omega)
        have i2 := i1.1
        have i3 : (ah F S (S + W) + (W - ah F S (S + W)) == W) = true := by simp; omega
        clear i1
        have Hv := hide hv
        clear hv
        go_enter Try.func10, Try.ntmps10
        go_wp2_with (first
          | (go_at_call 17; refine (least_ok _ _ _ _ Hv.out (by omega) (by omega)).mono ?_; rintro e w2 ⟨rfl, hb2⟩; have hk2 := box_keep (F := F) (S := S) (B := w.heap.size) ⟨by simp, by simp, Below.refl _ _, by simp⟩ hb2; clear hb2)
          | (go_at_call 30; refine (rleast_ok _ _ _ _ Hv.out (by omega) (by omega)).mono ?_; rintro e w2 ⟨rfl, hb2⟩; have hk2 := box_keep (by assumption) hb2; clear hb2)
          | (go_at_call 24; refine (most_ok _ _ _ _ Hv.out (by omega) (by omega)).mono ?_; rintro e w2 ⟨rfl, hb2⟩; have hk2 := box_keep (by assumption) hb2; clear hb2)
          | (go_at_call 31; refine (rmost_ok _ _ _ _ Hv.out (by omega) (by omega)).mono ?_; rintro e w2 ⟨rfl, hb2⟩; have hk2 := box_keep (by assumption) hb2; clear hb2)
          | (go_at_call 32; refine (coll_ok _ _ _ _ Hv.out (by omega) (by omega)).mono ?_; rintro e w2 ⟨rfl, hb2⟩; have hk2 := box_keep (by assumption) hb2; clear hb2)
          | (go_at_call 33; refine (rcoll_ok _ _ _ _ Hv.out (by omega) (by omega)).mono ?_; rintro e w2 ⟨rfl, hb2⟩; have hk2 := box_keep (by assumption) hb2; clear hb2)
          | (go_at_call 16; refine (sane_any _).mono ?_; rintro e ws ⟨rfl, hbs⟩; have hks := box_keep (by assumption) hbs; clear hbs))
        go_ret
        obtain ⟨-, -, hB, -⟩ := (by assumption : _ ∧ _ ∧ _ ∧ _)
        exact ⟨rfl, ((Below.refl w.heap.size w).alloc (Nat.le_refl _) _).trans (hB.mono (by omega))⟩
  · have Hn := hide (show (vld F S && decide (0 ≤ W) && decide (W ≤ 1000000)) = false by rw [Bool.eq_false_iff.2 hv]; rfl)
    clear hv
    go_enter Try.func10, Try.ntmps10
    go_wp2_with (first
      | (go_at_call 17; refine (least_no _ _ _ _ Hn.out).mono ?_; rintro e w2 ⟨rfl, hb2⟩; have hk2 := box_keep (F := F) (S := S) (B := w.heap.size) ⟨by simp, by simp, Below.refl _ _, by simp⟩ hb2; clear hb2)
      | (go_at_call 30; refine (rleast_no _ _ _ _ Hn.out).mono ?_; rintro e w2 ⟨rfl, hb2⟩; have hk2 := box_keep (by assumption) hb2; clear hb2)
      | (go_at_call 24; refine (most_no _ _ _ _ Hn.out).mono ?_; rintro e w2 ⟨rfl, hb2⟩; have hk2 := box_keep (by assumption) hb2; clear hb2)
      | (go_at_call 31; refine (rmost_no _ _ _ _ Hn.out).mono ?_; rintro e w2 ⟨rfl, hb2⟩; have hk2 := box_keep (by assumption) hb2; clear hb2)
      | (go_at_call 32; refine (coll_no _ _ _ _ Hn.out).mono ?_; rintro e w2 ⟨rfl, hb2⟩; have hk2 := box_keep (by assumption) hb2; clear hb2)
      | (go_at_call 33; refine (rcoll_no _ _ _ _ Hn.out).mono ?_; rintro e w2 ⟨rfl, hb2⟩; have hk2 := box_keep (by assumption) hb2; clear hb2)
      | (go_at_call 16; refine (sane_any _).mono ?_; rintro e ws ⟨rfl, hbs⟩; have hks := box_keep (by assumption) hbs; clear hbs))
    go_ret
    obtain ⟨-, -, hB, -⟩ := (by assumption : _ ∧ _ ∧ _ ∧ _)
    exact ⟨rfl, ((Below.refl w.heap.size w).alloc (Nat.le_refl _) _).trans (hB.mono (by omega))⟩

theorem own : ownKnob Try.prog.godebug = none := by kernel_rfl
theorem laidOut : laidOutB Try.prog = true := by kernel_rfl
theorem cells23 : Try.prog.cellsOf 23 = 2 := by kernel_rfl

set_option maxRecDepth 100000 in
theorem lifted (os : Os) (started : os.Started) (H : Type) (enc : TypeId × Value → H) :
    ReturnsInHanded {} Try.checked os 10 .any (Rows.supplyWindowsSpec.pre6 enc Try.prog Try.f10 Rows.supplyWindowsRow.domain false) (Rows.supplyWindowsSpec.post enc Try.prog Try.f10 false true false false) := by
  refine returnsInHanded_of_change (C := Try.checked) own started (by kernel_rfl) Try.func10
    (ChangeSpec.witness6 (enc := enc) (C := Try.checked) false ⟨#[], #[.agg #[.int .i64 0, .int .i64 0], .int .i64 0], []⟩ 8 (by kernel_rfl) (by kernel_rfl) (by kernel_rfl) (by kernel_rfl)) ?_
  intro W base args ds gs before hval0 hW hcnd _
  have hval : ∀ (j : Nat) t v, Try.f10.params[j]? = some t → args[j]? = some v → Value.okWide Try.prog W .any base t v := hval0
  have hW' := hW
  obtain ⟨p, q, hA0, hV, rfl, hfz, hnd⟩ := hW
  have hA : DataW.TrodAll enc Try.prog W 0 (fun _ => true) true Try.f10.params.toList args.toList ds p := hA0
  rw [Try.params10] at hA hval
  obtain ⟨v0, vs0, d0, ds0, p0, q0, hargs, rfl, rfl, h0, r0⟩ := trodAll_cons hA
  obtain ⟨v1, vs1, d1, ds1, p1, q1, rfl, rfl, rfl, h1, r1⟩ := trodAll_cons r0
  obtain ⟨rfl, rfl, rfl⟩ := trodAll_nil r1
  obtain rfl : args = #[v0, v1] := by cases args; simp_all
  obtain ⟨rfl, rfl⟩ := trodVars_none hV
  have k0 := h0
  have lt0 : ∀ x ∈ p0, x.block < W.heap.size := by obtain ⟨m, hm⟩ := k0; exact DataW.trod_lt m _ _ _ hm
  obtain ⟨c0_0, c0_1, y0_0, y0_1, m0, rfl, hd0, hp0, hy0_0, hy0_1⟩ := open_agg2 Try.underlying23 (by kernel_rfl) cells23 (hval 0 23 v0 rfl rfl) h0
  obtain ⟨a0_0, e0_0, -, w0_0⟩ := DataW.trod_int Try.underlying3 hy0_0
  simp at e0_0
  subst e0_0
  obtain ⟨a0_1, e0_1, -, w0_1⟩ := DataW.trod_int Try.underlying3 hy0_1
  simp at e0_1
  subst e0_1
  clear hd0 hp0
  obtain ⟨a1, rfl, rfl, rfl, w1⟩ := open_int Try.underlying3 (hval 1 3 v1 rfl rfl) h1
  clear hA0 hval0
  refine (walk a0_0 a0_1 a1 W w0_0 w0_1 w1).mono fun e W' ⟨he, bel⟩ => ?_
  subst he
  exact ⟨_, rfl, _, _, _, [], _, [], hW', trodAll_mk1 (shut_bool Try.underlying4 _), (trodAll_cons_mk (Below.trod laidOut (by kernel_rfl) (of_decide_eq_true (by kernel_rfl)) k0 bel lt0) (trodAll_cons_mk (shut_int Try.underlying3 w1) trodAll_mk0)), rfl, bel.frame _, fun h => by cases h⟩

theorem over : Rows.supplyWindowsRow.holds Try.pinned (OpenSpec.ofChange Rows.supplyWindowsSpec) :=
  OpenClaim.holds_of_wide 10 Try.f10 rfl rfl rfl rfl rfl rfl rfl ⟨rfl, rfl, rfl, rfl, rfl⟩ rfl rfl rfl rfl rfl (by kernel_rfl) Try.func10 (by kernel_rfl)
    (of_decide_eq_true (by kernel_rfl)) (by unfold Func.isWrapper; first | (rw [if_pos (by decide +kernel)]; kernel_rfl) | (rw [if_neg (by decide +kernel)]; exact ⟨rfl, rfl⟩))
    (fun os started H enc _ => lifted os started H enc)

/-- the statement -/
theorem proved : Rows.SupplyWindowsSaid := over
end Go.Proofs.Ythiogahpoebamaa.supplyWindows
