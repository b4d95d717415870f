/-
  The statement CodeValid: for every instruction the law returns true.
  Conditions: none beyond those of the given row.
-/
import Derived.Test.YteeljnlepbnhkaaRows
import Derived.Test.YteeljnlepbnhkaaEO
import Derived.Test.YteeljnlepbnhkaaEL
import Derived.ProofKit
import Derived.OpenShut
import Derived.ShutString
import Derived.ChangeOld
import Derived.Lib.SmallJoins
set_option linter.unusedVariables false
set_option linter.unusedSimpArgs false
namespace Go.Proofs.Yteeljnlepbnhkaa.codeValid
open Go.ChangeShapes Go.WideShapes Go.ChangeAt Go.RowKit Go.Joins
open Go.ChangeMaps (open_string shut_string)
open Ec Fw

set_option maxRecDepth 20000 in
set_option maxHeartbeats 4000000 in
theorem walk (a0 a1 a2 : Int) (w : World) (w0 : (Lit.int .i64 a0).wf = true) (w1 : (Lit.int .i64 a1).wf = true) (w2 : (Lit.int .i64 a2).wf = true) :
    Calls Try.prog 3 #[.agg #[vI a0, vI a1, vI a2]] w fun e w' => e = .returned (.bool true) ∧ Below w.heap.size w w' := by
  refine calls_of Try.func3 rfl (m := 42) rfl [(0, .agg #[vI a0, vI a1, vI a2])] (Fr_enter [.agg #[vI a0, vI a1, vI a2]] 42 (Nat.le_of_ble_eq_true rfl)) ?_
  have hH1 : HP Tr w w [] := HP.refl w
  refine WC.seq fun K2 hK2 => ?_
  refine WC.region ?_
  refine WL.alloc (c := #[vI a0, vI a1, vI a2]) (T := 23) hH1 1 rfl (by decide) rfl rfl (fun b => vP b 0) (by kernel_rfl) (fun b w3 hw3 => ?_)
  have hH4 : HP Tr w w3 [.cel b #[vI a0, vI a1, vI a2] 23] := hw3.2
  have nb := hw3.1
  clear hw3
  refine WL.pure (v := .bool false) 2 rfl (Nat.le_of_ble_eq_true rfl) rfl rfl (by kernel_rfl) ?_
  refine WL.nil ?_
  refine WQ.then ?_
  refine hK2 _ _ _ ?_
  refine WC.seq fun K5 hK5 => ?_
  refine WC.region ?_
  refine WL.pure (v := .agg #[vI a0, vI a1, vI a2]) 8 rfl (Nat.le_of_ble_eq_true rfl) rfl rfl (x_loadS (cs := [vI a0, vI a1, vI a2]) rfl rfl Try.underlying23 rfl sz23 (HP.range hH4 0 rfl rfl)) ?_
  refine WL.call (f := 10) (args := #[.agg #[vI a0, vI a1, vI a2]]) 9 rfl (Nat.le_of_ble_eq_true rfl) rfl rfl (by kernel_rfl) ?_
  refine (Cost_any _ _ _ _).mono ?_
  rintro e w6 ⟨rfl, hb7⟩
  refine ⟨_, rfl, ?_⟩
  have hH8 : HP Tr w _ [.cel b #[vI a0, vI a1, vI a2] 23] := HP.call hH4 hb7
  refine WL.pure (v := .tuple #[vI (costV a0 a1 a2), vI (costE a0 a1 a2)]) 7 rfl (Nat.le_of_ble_eq_true rfl) rfl rfl (by kernel_rfl) ?_
  refine WL.pure (v := vI (costV a0 a1 a2)) 10 rfl (Nat.le_of_ble_eq_true rfl) rfl rfl (by kernel_rfl) ?_
  refine WL.pure (v := vI (costE a0 a1 a2)) 11 rfl (Nat.le_of_ble_eq_true rfl) rfl rfl (by kernel_rfl) ?_
  refine WL.pure (v := vI (costV a0 a1 a2)) 3 rfl (Nat.le_of_ble_eq_true rfl) rfl rfl (by kernel_rfl) ?_
  refine WL.pure (v := vI (costE a0 a1 a2)) 4 rfl (Nat.le_of_ble_eq_true rfl) rfl rfl (by kernel_rfl) ?_
  refine WL.nil ?_
  refine WQ.then ?_
  refine hK5 _ _ _ ?_
  refine WC.seq fun K9 hK9 => ?_
  refine WC.region ?_
  refine WL.pure (v := .agg #[vI a0, vI a1, vI a2]) 13 rfl (Nat.le_of_ble_eq_true rfl) rfl rfl (x_loadS (cs := [vI a0, vI a1, vI a2]) rfl rfl Try.underlying23 rfl sz23 (HP.range hH8 0 rfl rfl)) ?_
  refine WL.call (f := 11) (args := #[.agg #[vI a0, vI a1, vI a2]]) 14 rfl (Nat.le_of_ble_eq_true rfl) rfl rfl (by kernel_rfl) ?_
  refine (rCost_any _ _ _ _).mono ?_
  rintro e w10 ⟨rfl, hb11⟩
  refine ⟨_, rfl, ?_⟩
  have hH12 : HP Tr w _ [.cel b #[vI a0, vI a1, vI a2] 23] := HP.call hH8 hb11
  refine WL.pure (v := .tuple #[vI (costV a0 a1 a2), vI (costE a0 a1 a2)]) 12 rfl (Nat.le_of_ble_eq_true rfl) rfl rfl (by kernel_rfl) ?_
  refine WL.pure (v := vI (costV a0 a1 a2)) 15 rfl (Nat.le_of_ble_eq_true rfl) rfl rfl (by kernel_rfl) ?_
  refine WL.pure (v := vI (costE a0 a1 a2)) 16 rfl (Nat.le_of_ble_eq_true rfl) rfl rfl (by kernel_rfl) ?_
  refine WL.pure (v := vI (costV a0 a1 a2)) 5 rfl (Nat.le_of_ble_eq_true rfl) rfl rfl (by kernel_rfl) ?_
  refine WL.pure (v := vI (costE a0 a1 a2)) 6 rfl (Nat.le_of_ble_eq_true rfl) rfl rfl (by kernel_rfl) ?_
  refine WL.nil ?_
  refine WQ.then ?_
  refine hK9 _ _ _ ?_
  refine WC.sub (l' := [(0, .agg #[vI a0, vI a1, vI a2]), (1, vP b 0), (2, .bool false), (3, vI (costV a0 a1 a2)), (4, vI (costE a0 a1 a2)), (5, vI (costV a0 a1 a2)), (6, vI (costE a0 a1 a2))]) ⟨rfl, rfl, rfl, rfl, rfl, rfl, rfl, trivial⟩ ?_
  refine WC.seq fun K13 hK13 => ?_
  refine WC.confG (γ := Unit) [(0, .agg #[vI a0, vI a1, vI a2]), (1, vP b 0), (3, vI (costV a0 a1 a2)), (4, vI (costE a0 a1 a2)), (5, vI (costV a0 a1 a2)), (6, vI (costE a0 a1 a2))] (fun _ => [.agg #[vI a0, vI a1, vI a2], .bool (vld a0 a1 a2 false), .agg #[vI a0, vI a1, vI a2], .bool (vld a0 a1 a2 false), .bool true, .bool true, .agg #[vI a0, vI a1, vI a2], .bool (vld a0 a1 a2 true), .agg #[vI a0, vI a1, vI a2], .bool (vld a0 a1 a2 true), .bool true, .bool true, .bool true, vI (costV a0 a1 a2), vI (costV a0 a1 a2), .bool true, .bool true, .bool true, vI (costE a0 a1 a2), vI (costE a0 a1 a2), .bool true, .bool true, .bool true, .bool true, .bool true, .bool true]) (fun _ D wz => HP Tr w wz [.cel b #[vI a0, vI a1, vI a2] 23]) () (by kernel_rfl) ⟨rfl, rfl, rfl, rfl, rfl, rfl, trivial⟩ (by kernel_rfl) (by kernel_rfl) (by kernel_rfl) (fun _ => rfl) (by kernel_rfl) (HP.drew hH12) ?_ ?_
  · refine AllOk.cons ?o0 (AllOk.cons ?o1 (AllOk.cons ?o2 (AllOk.cons ?o3 (AllOk.cons ?o4 (AllOk.cons ?o5 (AllOk.cons ?o6 (AllOk.cons ?o7 (AllOk.cons ?o8 (AllOk.cons ?o9 (AllOk.cons ?o10 (AllOk.cons ?o11 (AllOk.cons ?o12 (AllOk.cons ?o13 (AllOk.cons ?o14 (AllOk.cons ?o15 (AllOk.cons ?o16 (AllOk.cons ?o17 (AllOk.cons ?o18 (AllOk.cons ?o19 (AllOk.cons ?o20 (AllOk.cons ?o21 (AllOk.cons ?o22 (AllOk.cons ?o23 (AllOk.cons ?o24 (AllOk.cons ?o25 (AllOk.nil _))))))))))))))))))))))))))
    case o0 =>
      intro g D wz hDi hdep hclo hW
      exact .inl ⟨rfl, rfl, .inl ⟨g, wz, fun _ _ => rfl, x_loadS (cs := [vI a0, vI a1, vI a2]) rfl rfl Try.underlying23 rfl sz23 (HP.range hW 0 rfl rfl), hW⟩⟩
    case o1 =>
      intro g D wz hDi hdep hclo hW
      exact .inl ⟨rfl, rfl, .inr (.inr ⟨12, #[.agg #[vI a0, vI a1, vI a2], .bool false], by kernel_rfl, (Valid_any _ _ _ _ _).mono fun e w2 h => ⟨g, fun _ _ => rfl, h.1, HP.call hW h.2⟩⟩)⟩
    case o2 =>
      intro g D wz hDi hdep hclo hW
      exact .inl ⟨rfl, rfl, .inl ⟨g, wz, fun _ _ => rfl, x_loadS (cs := [vI a0, vI a1, vI a2]) rfl rfl Try.underlying23 rfl sz23 (HP.range hW 0 rfl rfl), hW⟩⟩
    case o3 =>
      intro g D wz hDi hdep hclo hW
      exact .inl ⟨rfl, rfl, .inr (.inr ⟨13, #[.agg #[vI a0, vI a1, vI a2], .bool false], by kernel_rfl, (rValid_any _ _ _ _ _).mono fun e w2 h => ⟨g, fun _ _ => rfl, h.1, HP.call hW h.2⟩⟩)⟩
    case o4 =>
      intro g D wz hDi hdep hclo hW
      exact .inl ⟨rfl, rfl, .inl ⟨g, wz, fun _ _ => rfl, x_eqlb rfl rfl rfl Try.underlying4 (by simp), hW⟩⟩
    case o5 =>
      intro g D wz hDi hdep hclo hW
      exact .inl ⟨rfl, rfl, .inl ⟨g, wz, fun _ _ => rfl, by kernel_rfl, hW⟩⟩
    case o6 =>
      intro g D wz hDi hdep hclo hW
      exact .inl ⟨rfl, rfl, .inl ⟨g, wz, fun _ _ => rfl, x_loadS (cs := [vI a0, vI a1, vI a2]) rfl rfl Try.underlying23 rfl sz23 (HP.range hW 0 rfl rfl), hW⟩⟩
    case o7 =>
      intro g D wz hDi hdep hclo hW
      exact .inl ⟨rfl, rfl, .inr (.inr ⟨12, #[.agg #[vI a0, vI a1, vI a2], .bool true], by kernel_rfl, (Valid_any _ _ _ _ _).mono fun e w2 h => ⟨g, fun _ _ => rfl, h.1, HP.call hW h.2⟩⟩)⟩
    case o8 =>
      intro g D wz hDi hdep hclo hW
      exact .inl ⟨rfl, rfl, .inl ⟨g, wz, fun _ _ => rfl, x_loadS (cs := [vI a0, vI a1, vI a2]) rfl rfl Try.underlying23 rfl sz23 (HP.range hW 0 rfl rfl), hW⟩⟩
    case o9 =>
      intro g D wz hDi hdep hclo hW
      exact .inl ⟨rfl, rfl, .inr (.inr ⟨13, #[.agg #[vI a0, vI a1, vI a2], .bool true], by kernel_rfl, (rValid_any _ _ _ _ _).mono fun e w2 h => ⟨g, fun _ _ => rfl, h.1, HP.call hW h.2⟩⟩)⟩
    case o10 =>
      intro g D wz hDi hdep hclo hW
      exact .inl ⟨rfl, rfl, .inl ⟨g, wz, fun _ _ => rfl, x_eqlb rfl rfl rfl Try.underlying4 (by simp), hW⟩⟩
    case o11 =>
      intro g D wz hDi hdep hclo hW
      exact .inl ⟨rfl, rfl, .inl ⟨g, wz, fun _ _ => rfl, by kernel_rfl, hW⟩⟩
    case o12 =>
      intro g D wz hDi hdep hclo hW
      exact .inl ⟨rfl, rfl, .inl ⟨g, wz, fun _ _ => rfl, by kernel_rfl, hW⟩⟩
    case o13 =>
      intro g D wz hDi hdep hclo hW
      exact .inl ⟨rfl, rfl, .inl ⟨g, wz, fun _ _ => rfl, by kernel_rfl, hW⟩⟩
    case o14 =>
      intro g D wz hDi hdep hclo hW
      exact .inl ⟨rfl, rfl, .inl ⟨g, wz, fun _ _ => rfl, by kernel_rfl, hW⟩⟩
    case o15 =>
      intro g D wz hDi hdep hclo hW
      exact .inl ⟨rfl, rfl, .inl ⟨g, wz, fun _ _ => rfl, x_eql rfl rfl rfl (dT (rfl)), hW⟩⟩
    case o16 =>
      intro g D wz hDi hdep hclo hW
      exact .inl ⟨rfl, rfl, .inl ⟨g, wz, fun _ _ => rfl, by kernel_rfl, hW⟩⟩
    case o17 =>
      intro g D wz hDi hdep hclo hW
      exact .inl ⟨rfl, rfl, .inl ⟨g, wz, fun _ _ => rfl, by kernel_rfl, hW⟩⟩
    case o18 =>
      intro g D wz hDi hdep hclo hW
      exact .inl ⟨rfl, rfl, .inl ⟨g, wz, fun _ _ => rfl, by kernel_rfl, hW⟩⟩
    case o19 =>
      intro g D wz hDi hdep hclo hW
      exact .inl ⟨rfl, rfl, .inl ⟨g, wz, fun _ _ => rfl, by kernel_rfl, hW⟩⟩
    case o20 =>
      intro g D wz hDi hdep hclo hW
      exact .inl ⟨rfl, rfl, .inl ⟨g, wz, fun _ _ => rfl, x_eql rfl rfl rfl (dT (rfl)), hW⟩⟩
    case o21 =>
      intro g D wz hDi hdep hclo hW
      exact .inl ⟨rfl, rfl, .inl ⟨g, wz, fun _ _ => rfl, by kernel_rfl, hW⟩⟩
    case o22 =>
      intro g D wz hDi hdep hclo hW
      exact .inl ⟨rfl, rfl, .inl ⟨g, wz, fun _ _ => rfl, by kernel_rfl, hW⟩⟩
    case o23 =>
      intro g D wz hDi hdep hclo hW
      exact .inl ⟨rfl, rfl, .inr (.inr ⟨14, #[], by kernel_rfl, (sane_any _).mono fun e w2 h => ⟨g, fun _ _ => rfl, h.1, HP.call hW h.2⟩⟩)⟩
    case o24 =>
      intro g D wz hDi hdep hclo hW
      exact .inl ⟨rfl, rfl, .inl ⟨g, wz, fun _ _ => rfl, by kernel_rfl, hW⟩⟩
    case o25 =>
      intro g D wz hDi hdep hclo hW
      exact .inl ⟨rfl, rfl, .inl ⟨g, wz, fun _ _ => rfl, by kernel_rfl, hW⟩⟩
  intro g D w14 hall hH15
  clear hall
  refine WQ.sub (l' := [(0, .agg #[vI a0, vI a1, vI a2]), (1, vP b 0), (2, .bool true), (3, vI (costV a0 a1 a2)), (4, vI (costE a0 a1 a2)), (5, vI (costV a0 a1 a2)), (6, vI (costE a0 a1 a2))]) ⟨rfl, rfl, rfl, rfl, rfl, rfl, rfl, trivial⟩ ?_
  refine WQ.then ?_
  refine hK13 _ _ _ ?_
  refine WC.ret ?_
  refine WQ.ret1 2 rfl rfl ?_
  exact ⟨rfl, HP.below hH15⟩

theorem own : ownKnob Try.prog.godebug = none := by kernel_rfl
theorem laidOut : laidOutB Try.prog = true := by kernel_rfl
theorem cells23 : Try.prog.cellsOf 23 = 3 := by kernel_rfl

set_option maxRecDepth 100000 in
theorem lifted (os : Os) (started : os.Started) (H : Type) (enc : TypeId × Value → H) :
    ReturnsInHanded {} Try.checked os 3 .any (Rows.codeValidSpec.pre6 enc Try.prog Try.f3 Rows.codeValidRow.domain false) (Rows.codeValidSpec.post enc Try.prog Try.f3 false true false false) := by
  refine returnsInHanded_of_change (C := Try.checked) own started (by kernel_rfl) Try.func3
    (ChangeSpec.witness6 (enc := enc) (C := Try.checked) false ⟨#[], #[.agg #[.int .i64 0, .int .i64 0, .int .i64 0]], []⟩ 8 (by kernel_rfl) (by kernel_rfl) (by kernel_rfl) (by kernel_rfl)) ?_
  intro W base args ds gs before hval0 hW hcnd _
  have hval : ∀ (j : Nat) t v, Try.f3.params[j]? = some t → args[j]? = some v → Value.okWide Try.prog W .any base t v := hval0
  have hW' := hW
  obtain ⟨p, q, hA0, hV, rfl, hfz, hnd⟩ := hW
  have hA : DataW.TrodAll enc Try.prog W 0 (fun _ => true) true Try.f3.params.toList args.toList ds p := hA0
  rw [Try.params3] at hA hval
  obtain ⟨v0, vs0, d0, ds0, p0, q0, hargs, rfl, rfl, h0, r0⟩ := trodAll_cons hA
  obtain ⟨rfl, rfl, rfl⟩ := trodAll_nil r0
  obtain rfl : args = #[v0] := by cases args; simp_all
  obtain ⟨rfl, rfl⟩ := trodVars_none hV
  have k0 := h0
  have lt0 : ∀ x ∈ p0, x.block < W.heap.size := by obtain ⟨m, hm⟩ := k0; exact DataW.trod_lt m _ _ _ hm
  obtain ⟨c0_0, c0_1, c0_2, y0_0, y0_1, y0_2, m0, rfl, hd0, hp0, hy0_0, hy0_1, hy0_2⟩ := open_agg3 Try.underlying23 (by kernel_rfl) cells23 (hval 0 23 v0 rfl rfl) h0
  obtain ⟨a0_0, e0_0, -, w0_0⟩ := DataW.trod_int Try.underlying3 hy0_0
  simp at e0_0
  subst e0_0
  obtain ⟨a0_1, e0_1, -, w0_1⟩ := DataW.trod_int Try.underlying3 hy0_1
  simp at e0_1
  subst e0_1
  obtain ⟨a0_2, e0_2, -, w0_2⟩ := DataW.trod_int Try.underlying3 hy0_2
  simp at e0_2
  subst e0_2
  clear hd0 hp0
  clear hA0 hval0
  refine (walk a0_0 a0_1 a0_2 W w0_0 w0_1 w0_2).mono fun e W' ⟨he, bel⟩ => ?_
  subst he
  exact ⟨_, rfl, _, _, _, [], _, [], hW', trodAll_mk1 (shut_bool Try.underlying4 _), (trodAll_cons_mk (Below.trod laidOut (by kernel_rfl) (of_decide_eq_true (by kernel_rfl)) k0 bel lt0) trodAll_mk0), rfl, bel.frame _, fun h => by cases h⟩

theorem over : Rows.codeValidRow.holds Try.pinned (OpenSpec.ofChange Rows.codeValidSpec) :=
  OpenClaim.holds_of_wide 3 Try.f3 rfl rfl rfl rfl rfl rfl rfl ⟨rfl, rfl, rfl, rfl, rfl⟩ rfl rfl rfl rfl rfl (by kernel_rfl) Try.func3 (by kernel_rfl)
    (of_decide_eq_true (by kernel_rfl)) (by unfold Func.isWrapper; first | (rw [if_pos (by decide +kernel)]; kernel_rfl) | (rw [if_neg (by decide +kernel)]; exact ⟨rfl, rfl⟩))
    (fun os started H enc _ => lifted os started H enc)

/-- the statement -/
theorem proved : Rows.CodeValidSaid := over
end Go.Proofs.Yteeljnlepbnhkaa.codeValid
