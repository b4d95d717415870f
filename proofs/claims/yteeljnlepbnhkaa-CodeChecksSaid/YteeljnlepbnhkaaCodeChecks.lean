/-
  The statement CodeChecks: for every list of instructions the law returns true.
  Conditions: none beyond those of the given row.
-/
import Derived.Test.YteeljnlepbnhkaaRows
import Derived.Test.YteeljnlepbnhkaaEO
import Derived.Test.YteeljnlepbnhkaaEX
import Derived.ProofKit
import Derived.OpenShut
import Derived.ShutString
import Derived.ChangeOld
import Derived.Lib.SmallJoins
set_option linter.unusedVariables false
set_option linter.unusedSimpArgs false
namespace Go.Proofs.Yteeljnlepbnhkaa.codeChecks
open Go.ChangeShapes Go.WideShapes Go.ChangeAt Go.RowKit Go.Joins
open Go.ChangeMaps (open_string shut_string)
open Ec Fw

set_option maxRecDepth 20000 in
set_option maxHeartbeats 4000000 in
theorem walk (p : Option Addr) (n cap : Nat) (c A B : Nat → Int) (w : World) (hR : RowIn w p n cap c A B) :
    Calls Try.prog 4 #[.slice p n cap] w fun e w' => e = .returned (.bool true) ∧ Below w.heap.size w w' := by
  refine calls_of Try.func4 rfl (m := 30) rfl [(0, .slice p n cap)] (Fr_enter [.slice p n cap] 30 (Nat.le_of_ble_eq_true rfl)) ?_
  have hH1 : HP Tr w w [] := HP.refl w
  refine WC.seq fun K2 hK2 => ?_
  refine WC.region ?_
  refine WL.pure (v := .bool false) 2 rfl (Nat.le_of_ble_eq_true rfl) rfl rfl (by kernel_rfl) ?_
  refine WL.nil ?_
  refine WQ.then ?_
  refine hK2 _ _ _ ?_
  refine WC.seq fun K3 hK3 => ?_
  refine WC.seq fun K4 hK4 => ?_
  refine WC.region ?_
  refine WL.pure (v := .slice p n cap) 4 rfl (Nat.le_of_ble_eq_true rfl) rfl rfl (by kernel_rfl) ?_
  refine WL.pure (v := vI (n : Int)) 5 rfl (Nat.le_of_ble_eq_true rfl) rfl rfl (by kernel_rfl) ?_
  by_cases hl : (400 : Int) < (n : Int)
  ·
    refine WL.pure (v := .bool true) 6 rfl (Nat.le_of_ble_eq_true rfl) rfl rfl (x_gtr rfl rfl rfl (dT (hl))) ?_
    refine WL.nil ?_
    refine WQ.then ?_
    refine hK4 _ _ _ ?_
    refine WC.yes rfl ?_
    refine WC.seq fun K5 hK5 => ?_
    refine WC.region ?_
    refine WL.call (f := 14) (args := #[]) 7 rfl (Nat.le_of_ble_eq_true rfl) rfl rfl (by kernel_rfl) ?_
    refine (sane_any _).mono ?_
    rintro e w6 ⟨rfl, hb7⟩
    refine ⟨_, rfl, ?_⟩
    have hH8 : HP Tr w _ [] := HP.call hH1 hb7
    refine WL.pure (v := .bool true) 2 rfl (Nat.le_of_ble_eq_true rfl) rfl rfl (by kernel_rfl) ?_
    refine WL.nil ?_
    refine WQ.then ?_
    refine hK5 _ _ _ ?_
    refine WC.ret ?_
    refine WQ.thenRet ?_
    refine WQ.ret1 2 rfl rfl ?_
    exact ⟨rfl, HP.below hH8⟩
  ·
    refine WL.pure (v := .bool false) 6 rfl (Nat.le_of_ble_eq_true rfl) rfl rfl (x_gtr rfl rfl rfl (dF (hl))) ?_
    refine WL.nil ?_
    refine WQ.then ?_
    refine hK4 _ _ _ ?_
    refine WC.no rfl ?_
    refine WC.skip ?_
    refine WQ.then ?_
    refine hK3 _ _ _ ?_
    refine WC.seq fun K9 hK9 => ?_
    refine WC.region ?_
    refine WL.pure (v := .slice p n cap) 8 rfl (Nat.le_of_ble_eq_true rfl) rfl rfl (by kernel_rfl) ?_
    refine WL.call (f := 15) (args := #[.slice p n cap]) 9 rfl (Nat.le_of_ble_eq_true rfl) rfl rfl (by kernel_rfl) ?_
    refine (own_any _ _ _ c A B _ (hR.below (HP.below hH1)) (by omega)).mono ?_
    rintro e w10 ⟨pv, cp, rfl, hb11⟩
    refine ⟨_, rfl, ?_⟩
    have hH12 : HP Tr w _ [.own (.slice pv n cp) n (insL c A B n) 23 3] := HP.trans hH1 hb11
    refine WL.pure (v := .slice pv n cp) 3 rfl (Nat.le_of_ble_eq_true rfl) rfl rfl (by kernel_rfl) ?_
    refine WL.nil ?_
    refine WQ.then ?_
    refine hK9 _ _ _ ?_
    refine WC.seq fun K13 hK13 => ?_
    refine WC.region ?_
    refine WL.pure (v := .slice pv n cp) 10 rfl (Nat.le_of_ble_eq_true rfl) rfl rfl (by kernel_rfl) ?_
    refine WL.call (f := 16) (args := #[.slice pv n cp, .bool false]) 11 rfl (Nat.le_of_ble_eq_true rfl) rfl rfl (by kernel_rfl) ?_
    refine (Check_any _ _ _ c A B false _ ((own_rowIn (HP.get hH12 0 rfl)).inC) (by omega)).mono ?_
    rintro e w14 ⟨rfl, hb15⟩
    refine ⟨_, rfl, ?_⟩
    have hH16 : HP Tr w _ [.own (.slice pv n cp) n (insL c A B n) 23 3] := HP.call hH12 hb15
    refine WL.pure (v := .slice p n cap) 12 rfl (Nat.le_of_ble_eq_true rfl) rfl rfl (by kernel_rfl) ?_
    refine WL.call (f := 17) (args := #[.slice p n cap, .bool false]) 13 rfl (Nat.le_of_ble_eq_true rfl) rfl rfl (by kernel_rfl) ?_
    refine (rCheck_any _ _ _ c A B false _ (hR.inC.below (HP.below hH16)) (by omega)).mono ?_
    rintro e w17 ⟨rfl, hb18⟩
    refine ⟨_, rfl, ?_⟩
    have hH19 : HP Tr w _ [.own (.slice pv n cp) n (insL c A B n) 23 3] := HP.call hH16 hb18
    refine WL.pure (v := .bool true) 14 rfl (Nat.le_of_ble_eq_true rfl) rfl rfl (x_eql rfl rfl rfl (dT (rfl))) ?_
    refine WL.pure (v := .bool true) 15 rfl (Nat.le_of_ble_eq_true rfl) rfl rfl (by kernel_rfl) ?_
    refine WL.pure (v := .slice pv n cp) 16 rfl (Nat.le_of_ble_eq_true rfl) rfl rfl (by kernel_rfl) ?_
    refine WL.call (f := 16) (args := #[.slice pv n cp, .bool true]) 17 rfl (Nat.le_of_ble_eq_true rfl) rfl rfl (by kernel_rfl) ?_
    refine (Check_any _ _ _ c A B true _ ((own_rowIn (HP.get hH19 0 rfl)).inC) (by omega)).mono ?_
    rintro e w20 ⟨rfl, hb21⟩
    refine ⟨_, rfl, ?_⟩
    have hH22 : HP Tr w _ [.own (.slice pv n cp) n (insL c A B n) 23 3] := HP.call hH19 hb21
    refine WL.pure (v := .slice p n cap) 18 rfl (Nat.le_of_ble_eq_true rfl) rfl rfl (by kernel_rfl) ?_
    refine WL.call (f := 17) (args := #[.slice p n cap, .bool true]) 19 rfl (Nat.le_of_ble_eq_true rfl) rfl rfl (by kernel_rfl) ?_
    refine (rCheck_any _ _ _ c A B true _ (hR.inC.below (HP.below hH22)) (by omega)).mono ?_
    rintro e w23 ⟨rfl, hb24⟩
    refine ⟨_, rfl, ?_⟩
    have hH25 : HP Tr w _ [.own (.slice pv n cp) n (insL c A B n) 23 3] := HP.call hH22 hb24
    refine WL.pure (v := .bool true) 20 rfl (Nat.le_of_ble_eq_true rfl) rfl rfl (x_eql rfl rfl rfl (dT (rfl))) ?_
    refine WL.pure (v := .bool true) 21 rfl (Nat.le_of_ble_eq_true rfl) rfl rfl (by kernel_rfl) ?_
    refine WL.pure (v := .bool true) 22 rfl (Nat.le_of_ble_eq_true rfl) rfl rfl (by kernel_rfl) ?_
    refine WL.pure (v := .slice p n cap) 23 rfl (Nat.le_of_ble_eq_true rfl) rfl rfl (by kernel_rfl) ?_
    refine WL.pure (v := .slice pv n cp) 24 rfl (Nat.le_of_ble_eq_true rfl) rfl rfl (by kernel_rfl) ?_
    refine WL.call (f := 18) (args := #[.slice p n cap, .slice pv n cp]) 25 rfl (Nat.le_of_ble_eq_true rfl) rfl rfl (by kernel_rfl) ?_
    refine (Same_any _ _ _ _ _ c A B _ (hR.inC.below (HP.below hH25)) ((own_rowIn (HP.get hH25 0 rfl)).inC) (by omega)).mono ?_
    rintro e w26 ⟨rfl, hb27⟩
    refine ⟨_, rfl, ?_⟩
    have hH28 : HP Tr w _ [.own (.slice pv n cp) n (insL c A B n) 23 3] := HP.call hH25 hb27
    refine WL.pure (v := .bool true) 26 rfl (Nat.le_of_ble_eq_true rfl) rfl rfl (by kernel_rfl) ?_
    refine WL.pure (v := .bool true) 27 rfl (Nat.le_of_ble_eq_true rfl) rfl rfl (by kernel_rfl) ?_
    refine WL.call (f := 14) (args := #[]) 28 rfl (Nat.le_of_ble_eq_true rfl) rfl rfl (by kernel_rfl) ?_
    refine (sane_any _).mono ?_
    rintro e w29 ⟨rfl, hb30⟩
    refine ⟨_, rfl, ?_⟩
    have hH31 : HP Tr w _ [.own (.slice pv n cp) n (insL c A B n) 23 3] := HP.call hH28 hb30
    refine WL.pure (v := .bool true) 29 rfl (Nat.le_of_ble_eq_true rfl) rfl rfl (by kernel_rfl) ?_
    refine WL.pure (v := .bool true) 2 rfl (Nat.le_of_ble_eq_true rfl) rfl rfl (by kernel_rfl) ?_
    refine WL.nil ?_
    refine WQ.then ?_
    refine hK13 _ _ _ ?_
    refine WC.sub (l' := [(0, .slice p n cap), (2, .bool true), (3, .slice pv n cp), (6, .bool false)]) ⟨rfl, rfl, rfl, rfl, trivial⟩ ?_
    refine WC.ret ?_
    refine WQ.ret1 2 rfl rfl ?_
    exact ⟨rfl, HP.below hH31⟩

theorem own : ownKnob Try.prog.godebug = none := by kernel_rfl
theorem laidOut : laidOutB Try.prog = true := by kernel_rfl

set_option maxRecDepth 100000 in
theorem lifted (os : Os) (started : os.Started) (H : Type) (enc : TypeId × Value → H) :
    ReturnsInHanded {} Try.checked os 4 .any (Rows.codeChecksSpec.pre6 enc Try.prog Try.f4 Rows.codeChecksRow.domain false) (Rows.codeChecksSpec.post enc Try.prog Try.f4 false true false false) := by
  refine returnsInHanded_of_change (C := Try.checked) own started (by kernel_rfl) Try.func4
    (ChangeSpec.witness6 (enc := enc) (C := Try.checked) false ⟨#[], #[.slice none 0 0], []⟩ 8 (by kernel_rfl) (by kernel_rfl) (by kernel_rfl) (by kernel_rfl)) ?_
  intro W base args ds gs before hval0 hW hcnd _
  have hval : ∀ (j : Nat) t v, Try.f4.params[j]? = some t → args[j]? = some v → Value.okWide Try.prog W .any base t v := hval0
  have hW' := hW
  obtain ⟨p, q, hA0, hV, rfl, hfz, hnd⟩ := hW
  have hA : DataW.TrodAll enc Try.prog W 0 (fun _ => true) true Try.f4.params.toList args.toList ds p := hA0
  rw [Try.params4] at hA hval
  obtain ⟨v0, vs0, d0, ds0, p0, q0, hargs, rfl, rfl, h0, r0⟩ := trodAll_cons hA
  obtain ⟨rfl, rfl, rfl⟩ := trodAll_nil r0
  obtain rfl : args = #[v0] := by cases args; simp_all
  obtain ⟨rfl, rfl⟩ := trodVars_none hV
  have k0 := h0
  have lt0 : ∀ x ∈ p0, x.block < W.heap.size := by obtain ⟨m, hm⟩ := k0; exact DataW.trod_lt m _ _ _ hm
  obtain ⟨b0, n0, cap0, rfl⟩ := okWide_slice Try.underlying30 (hval 0 30 v0 rfl rfl)
  obtain ⟨c0, A0, B0, hrow0⟩ := rows3 h0 lt0
  clear hA0 hval0
  refine (walk b0 n0 cap0 c0 A0 B0 W hrow0).mono fun e W' ⟨he, bel⟩ => ?_
  subst he
  exact ⟨_, rfl, _, _, _, [], _, [], hW', trodAll_mk1 (shut_bool Try.underlying4 _), (trodAll_cons_mk (Below.trod laidOut (by kernel_rfl) (of_decide_eq_true (by kernel_rfl)) k0 bel lt0) trodAll_mk0), rfl, bel.frame _, fun h => by cases h⟩

theorem over : Rows.codeChecksRow.holds Try.pinned (OpenSpec.ofChange Rows.codeChecksSpec) :=
  OpenClaim.holds_of_wide 4 Try.f4 rfl rfl rfl rfl rfl rfl rfl ⟨rfl, rfl, rfl, rfl, rfl⟩ rfl rfl rfl rfl rfl (by kernel_rfl) Try.func4 (by kernel_rfl)
    (of_decide_eq_true (by kernel_rfl)) (by unfold Func.isWrapper; first | (rw [if_pos (by decide +kernel)]; kernel_rfl) | (rw [if_neg (by decide +kernel)]; exact ⟨rfl, rfl⟩))
    (fun os started H enc _ => lifted os started H enc)

/-- the statement -/
theorem proved : Rows.CodeChecksSaid := over
end Go.Proofs.Yteeljnlepbnhkaa.codeChecks
