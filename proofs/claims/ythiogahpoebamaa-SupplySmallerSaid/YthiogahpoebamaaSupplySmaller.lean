/-
  The statement SupplySmaller: for every supply and all numbers the law returns true.
  Conditions: none beyond those of the given row.
-/
import Derived.Test.YthiogahpoebamaaRows
import Derived.Test.YthiogahpoebamaaM
import Derived.Test.YthiogahpoebamaaK
import Derived.ProofKit
import Derived.OpenShut
import Derived.ShutString
import Derived.ChangeOld
import Derived.Lib.SmallJoins
set_option linter.unusedVariables false
set_option linter.unusedSimpArgs false
namespace Go.Proofs.Ythiogahpoebamaa.supplySmaller
open Go.ChangeShapes Go.WideShapes Go.ChangeAt Go.RowKit Go.Joins
open Go.ChangeMaps (open_string shut_string)
open Sup

theorem walk (F S n W : Int) (w : World) (w0 : (Lit.int .i64 F).wf = true) (w1 : (Lit.int .i64 S).wf = true) (w2 : (Lit.int .i64 n).wf = true) (w3 : (Lit.int .i64 W).wf = true) :
    Calls Try.prog 12 #[.agg #[.int .i64 F, .int .i64 S], .int .i64 n, .int .i64 W] w fun e w' => e = .returned (.bool true) ∧ Below w.heap.size w w' := by
  clear w0 w1 w2 w3
  by_cases hok : (vld F S && decide (0 ≤ n) && decide (n ≤ 1000000000) && (decide (0 ≤ W) && decide (W ≤ 1000000))) = true
  · simp only [Bool.and_eq_true, decide_eq_true_eq] at hok
    obtain ⟨⟨⟨hv, n1⟩, n2⟩, W1, W2⟩ := hok
    obtain ⟨h1, h2, h3, h4⟩ := vld_t hv
    obtain ⟨s1, s2, s3, s4⟩ := sm_spec F n W F.toNat
    have s5 := s4 (sm F n W F.toNat + 1) (by omega)
    have Hv := hide hv
    clear hv s4
    generalize hx : sm F n W F.toNat = x at *
    have Hx := hide hx
    clear hx
    by_cases c1 : 0 ≤ x
    · have s6 := s3 c1
      clear s3
      by_cases c2 : x + 1 < F
      · have s7 := s5 (by omega)
        clear s5
        go_enter Try.func12, Try.ntmps12
        go_wp2_with (first
          | (go_at_call 36; refine (smaller_ok _ _ _ _ _ Hv.out n1 n2 W1 W2).mono ?_; rintro e w2 ⟨rfl, hb2⟩; (first | rw [Hx.out]); have hk2 := box_keep (F := F) (S := S) (B := w.heap.size) ⟨by simp, by simp, Below.refl _ _, by simp⟩ hb2; clear hb2)
          | (go_at_call 37; refine (rsmaller_ok _ _ _ _ _ Hv.out n1 n2 W1 W2).mono ?_; rintro e w2 ⟨rfl, hb2⟩; (first | rw [Hx.out]); have hk2 := box_keep (by assumption) hb2; clear hb2)
          | (go_at_call 19; refine (longest_ok _ _ _ _ (vld_mk h1 h2 (by omega) (by omega)) n1 n2).mono ?_; rintro e w2 ⟨rfl, hb2⟩; have hk2 := box_keep (by assumption) hb2; clear hb2)
          | (go_at_call 16; refine (sane_any _).mono ?_; rintro e ws ⟨rfl, hbs⟩; have hks := box_keep (by assumption) hbs; clear hbs))
        go_ret
        obtain ⟨-, -, hB, -⟩ := (by assumption : _ ∧ _ ∧ _ ∧ _)
        exact ⟨rfl, ((Below.refl w.heap.size w).alloc (Nat.le_refl _) _).trans (hB.mono (by omega))⟩
      · clear s5
        go_enter Try.func12, Try.ntmps12
        go_wp2_with (first
          | (go_at_call 36; refine (smaller_ok _ _ _ _ _ Hv.out n1 n2 W1 W2).mono ?_; rintro e w2 ⟨rfl, hb2⟩; (first | rw [Hx.out]); have hk2 := box_keep (F := F) (S := S) (B := w.heap.size) ⟨by simp, by simp, Below.refl _ _, by simp⟩ hb2; clear hb2)
          | (go_at_call 37; refine (rsmaller_ok _ _ _ _ _ Hv.out n1 n2 W1 W2).mono ?_; rintro e w2 ⟨rfl, hb2⟩; (first | rw [Hx.out]); have hk2 := box_keep (by assumption) hb2; clear hb2)
          | (go_at_call 19; refine (longest_ok _ _ _ _ (vld_mk h1 h2 (by omega) (by omega)) n1 n2).mono ?_; rintro e w2 ⟨rfl, hb2⟩; have hk2 := box_keep (by assumption) hb2; clear hb2)
          | (go_at_call 16; refine (sane_any _).mono ?_; rintro e ws ⟨rfl, hbs⟩; have hks := box_keep (by assumption) hbs; clear hbs))
        go_ret
        obtain ⟨-, -, hB, -⟩ := (by assumption : _ ∧ _ ∧ _ ∧ _)
        exact ⟨rfl, ((Below.refl w.heap.size w).alloc (Nat.le_refl _) _).trans (hB.mono (by omega))⟩
    · obtain rfl : x = -1 := by omega
      have s7 : W < lo F 0 n := s5 (by omega)
      clear s5 s3
      go_enter Try.func12, Try.ntmps12
      go_wp2_with (first
        | (go_at_call 36; refine (smaller_ok _ _ _ _ _ Hv.out n1 n2 W1 W2).mono ?_; rintro e w2 ⟨rfl, hb2⟩; (first | rw [Hx.out]); have hk2 := box_keep (F := F) (S := S) (B := w.heap.size) ⟨by simp, by simp, Below.refl _ _, by simp⟩ hb2; clear hb2)
        | (go_at_call 37; refine (rsmaller_ok _ _ _ _ _ Hv.out n1 n2 W1 W2).mono ?_; rintro e w2 ⟨rfl, hb2⟩; (first | rw [Hx.out]); have hk2 := box_keep (by assumption) hb2; clear hb2)
        | (go_at_call 19; refine (longest_ok _ _ _ _ (vld_mk h1 h2 (by omega) (by omega)) n1 n2).mono ?_; rintro e w2 ⟨rfl, hb2⟩; have hk2 := box_keep (by assumption) hb2; clear hb2)
        | (go_at_call 16; refine (sane_any _).mono ?_; rintro e ws ⟨rfl, hbs⟩; have hks := box_keep (by assumption) hbs; clear hbs))
      go_ret
      obtain ⟨-, -, hB, -⟩ := (by assumption : _ ∧ _ ∧ _ ∧ _)
      exact ⟨rfl, ((Below.refl w.heap.size w).alloc (Nat.le_refl _) _).trans (hB.mono (by omega))⟩
  · have Hn := hide (Bool.eq_false_iff.2 hok)
    clear hok
    go_enter Try.func12, Try.ntmps12
    go_wp2_with (first
      | (go_at_call 36; refine (smaller_no _ _ _ _ _ Hn.out).mono ?_; rintro e w2 ⟨rfl, hb2⟩; have hk2 := box_keep (F := F) (S := S) (B := w.heap.size) ⟨by simp, by simp, Below.refl _ _, by simp⟩ hb2; clear hb2)
      | (go_at_call 37; refine (rsmaller_no _ _ _ _ _ Hn.out).mono ?_; rintro e w2 ⟨rfl, hb2⟩; have hk2 := box_keep (by assumption) hb2; clear hb2)
      | (go_at_call 16; refine (sane_any _).mono ?_; rintro e ws ⟨rfl, hbs⟩; have hks := box_keep (by assumption) hbs; clear hbs))
    go_ret
    obtain ⟨-, -, hB, -⟩ := (by assumption : _ ∧ _ ∧ _ ∧ _)
    exact ⟨rfl, ((Below.refl w.heap.size w).alloc (Nat.le_refl _) _).trans (hB.mono (by omega))⟩

theorem own : ownKnob Try.prog.godebug = none := by kernel_rfl
theorem laidOut : laidOutB Try.prog = true := by kernel_rfl
theorem cells23 : Try.prog.cellsOf 23 = 2 := by kernel_rfl

set_option maxRecDepth 100000 in
theorem lifted (os : Os) (started : os.Started) (H : Type) (enc : TypeId × Value → H) :
    ReturnsInHanded {} Try.checked os 12 .any (Rows.supplySmallerSpec.pre6 enc Try.prog Try.f12 Rows.supplySmallerRow.domain false) (Rows.supplySmallerSpec.post enc Try.prog Try.f12 false true false false) := by
  refine returnsInHanded_of_change (C := Try.checked) own started (by kernel_rfl) Try.func12
    (ChangeSpec.witness6 (enc := enc) (C := Try.checked) false ⟨#[], #[.agg #[.int .i64 0, .int .i64 0], .int .i64 0, .int .i64 0], []⟩ 8 (by kernel_rfl) (by kernel_rfl) (by kernel_rfl) (by kernel_rfl)) ?_
  intro W base args ds gs before hval0 hW hcnd _
  have hval : ∀ (j : Nat) t v, Try.f12.params[j]? = some t → args[j]? = some v → Value.okWide Try.prog W .any base t v := hval0
  have hW' := hW
  obtain ⟨p, q, hA0, hV, rfl, hfz, hnd⟩ := hW
  have hA : DataW.TrodAll enc Try.prog W 0 (fun _ => true) true Try.f12.params.toList args.toList ds p := hA0
  rw [Try.params12] at hA hval
  obtain ⟨v0, vs0, d0, ds0, p0, q0, hargs, rfl, rfl, h0, r0⟩ := trodAll_cons hA
  obtain ⟨v1, vs1, d1, ds1, p1, q1, rfl, rfl, rfl, h1, r1⟩ := trodAll_cons r0
  obtain ⟨v2, vs2, d2, ds2, p2, q2, rfl, rfl, rfl, h2, r2⟩ := trodAll_cons r1
  obtain ⟨rfl, rfl, rfl⟩ := trodAll_nil r2
  obtain rfl : args = #[v0, v1, v2] := by cases args; simp_all
  obtain ⟨rfl, rfl⟩ := trodVars_none hV
  have k0 := h0
  have lt0 : ∀ x ∈ p0, x.block < W.heap.size := by obtain ⟨m, hm⟩ := k0; exact DataW.trod_lt m _ _ _ hm
  obtain ⟨c0_0, c0_1, y0_0, y0_1, m0, rfl, hd0, hp0, hy0_0, hy0_1⟩ := open_agg2 Try.underlying23 (by kernel_rfl) cells23 (hval 0 23 v0 rfl rfl) h0
  obtain ⟨a0_0, e0_0, -, w0_0⟩ := DataW.trod_int Try.underlying3 hy0_0
  simp at e0_0
  subst e0_0
  obtain ⟨a0_1, e0_1, -, w0_1⟩ := DataW.trod_int Try.underlying3 hy0_1
  simp at e0_1
  subst e0_1
  clear hd0 hp0
  obtain ⟨a1, rfl, rfl, rfl, w1⟩ := open_int Try.underlying3 (hval 1 3 v1 rfl rfl) h1
  obtain ⟨a2, rfl, rfl, rfl, w2⟩ := open_int Try.underlying3 (hval 2 3 v2 rfl rfl) h2
  clear hA0 hval0
  refine (walk a0_0 a0_1 a1 a2 W w0_0 w0_1 w1 w2).mono fun e W' ⟨he, bel⟩ => ?_
  subst he
  exact ⟨_, rfl, _, _, _, [], _, [], hW', trodAll_mk1 (shut_bool Try.underlying4 _), (trodAll_cons_mk (Below.trod laidOut (by kernel_rfl) (of_decide_eq_true (by kernel_rfl)) k0 bel lt0) (trodAll_cons_mk (shut_int Try.underlying3 w1) (trodAll_cons_mk (shut_int Try.underlying3 w2) trodAll_mk0))), rfl, bel.frame _, fun h => by cases h⟩

theorem over : Rows.supplySmallerRow.holds Try.pinned (OpenSpec.ofChange Rows.supplySmallerSpec) :=
  OpenClaim.holds_of_wide 12 Try.f12 rfl rfl rfl rfl rfl rfl rfl ⟨rfl, rfl, rfl, rfl, rfl⟩ rfl rfl rfl rfl rfl (by kernel_rfl) Try.func12 (by kernel_rfl)
    (of_decide_eq_true (by kernel_rfl)) (by unfold Func.isWrapper; first | (rw [if_pos (by decide +kernel)]; kernel_rfl) | (rw [if_neg (by decide +kernel)]; exact ⟨rfl, rfl⟩))
    (fun os started H enc _ => lifted os started H enc)

/-- the statement -/
theorem proved : Rows.SupplySmallerSaid := over
end Go.Proofs.Ythiogahpoebamaa.supplySmaller
