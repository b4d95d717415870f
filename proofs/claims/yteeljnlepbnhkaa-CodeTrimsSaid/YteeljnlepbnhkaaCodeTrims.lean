/-
  The statement CodeTrims: for every list of instructions and operation the law returns true.
  Conditions: none beyond those of the given row.
-/
import Derived.Test.YteeljnlepbnhkaaRows
import Derived.Test.YteeljnlepbnhkaaEO
import Derived.Test.YteeljnlepbnhkaaEW
import Derived.ProofKit
import Derived.OpenShut
import Derived.ShutString
import Derived.ChangeOld
import Derived.Lib.SmallJoins
set_option linter.unusedVariables false
set_option linter.unusedSimpArgs false
namespace Go.Proofs.Yteeljnlepbnhkaa.codeTrims
open Go.ChangeShapes Go.WideShapes Go.ChangeAt Go.RowKit Go.Joins
open Go.ChangeMaps (open_string shut_string)
open Ec Fw

set_option maxRecDepth 20000 in
set_option maxHeartbeats 4000000 in
theorem walk (p : Option Addr) (n cap : Nat) (c A B : Nat → Int) (op : Int) (w : World) (hR : RowIn w p n cap c A B) (w1 : (Lit.int .i64 op).wf = true) :
    Calls Try.prog 9 #[.slice p n cap, vI op] w fun e w' => e = .returned (.bool true) ∧ Below w.heap.size w w' := by
  refine calls_of Try.func9 rfl (m := 120) rfl [(0, .slice p n cap), (1, vI op)] (Fr_enter [.slice p n cap, vI op] 120 (Nat.le_of_ble_eq_true rfl)) ?_
  have hH1 : HP Tr w w [] := HP.refl w
  refine WC.seq fun K2 hK2 => ?_
  refine WC.region ?_
  refine WL.pure (v := .bool false) 4 rfl (Nat.le_of_ble_eq_true rfl) rfl rfl (by kernel_rfl) ?_
  refine WL.nil ?_
  refine WQ.then ?_
  refine hK2 _ _ _ ?_
  refine WC.seq fun K3 hK3 => ?_
  refine WC.seq fun K4 hK4 => ?_
  refine WC.region ?_
  refine WL.pure (v := .slice p n cap) 19 rfl (Nat.le_of_ble_eq_true rfl) rfl rfl (by kernel_rfl) ?_
  refine WL.pure (v := vI (n : Int)) 20 rfl (Nat.le_of_ble_eq_true rfl) rfl rfl (by kernel_rfl) ?_
  by_cases hl : (400 : Int) < (n : Int)
  ·
    refine WL.pure (v := .bool true) 21 rfl (Nat.le_of_ble_eq_true rfl) rfl rfl (x_gtr rfl rfl rfl (dT (hl))) ?_
    refine WL.nil ?_
    refine WQ.then ?_
    refine hK4 _ _ _ ?_
    refine WC.yes rfl ?_
    refine WC.seq fun K5 hK5 => ?_
    refine WC.region ?_
    refine WL.call (f := 14) (args := #[]) 22 rfl (Nat.le_of_ble_eq_true rfl) rfl rfl (by kernel_rfl) ?_
    refine (sane_any _).mono ?_
    rintro e w6 ⟨rfl, hb7⟩
    refine ⟨_, rfl, ?_⟩
    have hH8 : HP Tr w _ [] := HP.call hH1 hb7
    refine WL.pure (v := .bool true) 4 rfl (Nat.le_of_ble_eq_true rfl) rfl rfl (by kernel_rfl) ?_
    refine WL.nil ?_
    refine WQ.then ?_
    refine hK5 _ _ _ ?_
    refine WC.ret ?_
    refine WQ.thenRet ?_
    refine WQ.ret1 4 rfl rfl ?_
    exact ⟨rfl, HP.below hH8⟩
  ·
    refine WL.pure (v := .bool false) 21 rfl (Nat.le_of_ble_eq_true rfl) rfl rfl (x_gtr rfl rfl rfl (dF (hl))) ?_
    refine WL.nil ?_
    refine WQ.then ?_
    refine hK4 _ _ _ ?_
    refine WC.no rfl ?_
    refine WC.skip ?_
    refine WQ.then ?_
    refine hK3 _ _ _ ?_
    refine WC.seq fun K9 hK9 => ?_
    refine WC.region ?_
    refine WL.pure (v := .slice p n cap) 23 rfl (Nat.le_of_ble_eq_true rfl) rfl rfl (by kernel_rfl) ?_
    refine WL.call (f := 15) (args := #[.slice p n cap]) 24 rfl (Nat.le_of_ble_eq_true rfl) rfl rfl (by kernel_rfl) ?_
    refine (own_any _ _ _ c A B _ (hR.below (HP.below hH1)) (by omega)).mono ?_
    rintro e w10 ⟨pv, cp, rfl, hb11⟩
    refine ⟨_, rfl, ?_⟩
    have hH12 : HP Tr w _ [.own (.slice pv n cp) n (insL c A B n) 23 3] := HP.trans hH1 hb11
    refine WL.pure (v := .slice pv n cp) 5 rfl (Nat.le_of_ble_eq_true rfl) rfl rfl (by kernel_rfl) ?_
    refine WL.nil ?_
    refine WQ.then ?_
    refine hK9 _ _ _ ?_
    refine WC.seq fun K13 hK13 => ?_
    refine WC.region ?_
    refine WL.pure (v := .slice pv n cp) 26 rfl (Nat.le_of_ble_eq_true rfl) rfl rfl (by kernel_rfl) ?_
    refine WL.call (f := 36) (args := #[.slice pv n cp]) 27 rfl (Nat.le_of_ble_eq_true rfl) rfl rfl (by kernel_rfl) ?_
    refine (Trim_any _ _ _ c A B _ (own_rowIn (HP.get hH12 0 rfl)) (by omega)).mono ?_
    rintro e w1 (⟨hck, rfl, hb⟩ | ⟨hck, pv2, cp2, rfl, hb⟩)
    ·
      refine ⟨_, rfl, ?_⟩
      have hH14 : HP Tr w _ [.own (.slice pv n cp) n (insL c A B n) 23 3] := HP.call hH12 hb
      refine WL.pure (v := .tuple #[.slice none 0 0, vI (chk c A B false n)]) 25 rfl (Nat.le_of_ble_eq_true rfl) rfl rfl (by kernel_rfl) ?_
      refine WL.pure (v := .slice none 0 0) 28 rfl (Nat.le_of_ble_eq_true rfl) rfl rfl (by kernel_rfl) ?_
      refine WL.pure (v := vI (chk c A B false n)) 29 rfl (Nat.le_of_ble_eq_true rfl) rfl rfl (by kernel_rfl) ?_
      refine WL.pure (v := .slice none 0 0) 6 rfl (Nat.le_of_ble_eq_true rfl) rfl rfl (by kernel_rfl) ?_
      refine WL.pure (v := vI (chk c A B false n)) 7 rfl (Nat.le_of_ble_eq_true rfl) rfl rfl (by kernel_rfl) ?_
      refine WL.nil ?_
      refine WQ.then ?_
      refine hK13 _ _ _ ?_
      refine WC.sub (l' := [(0, .slice p n cap), (1, vI op), (4, .bool false), (5, .slice pv n cp), (6, .slice none 0 0), (7, vI (chk c A B false n)), (21, .bool false)]) ⟨rfl, rfl, rfl, rfl, rfl, rfl, rfl, trivial⟩ ?_
      refine WC.seq fun K15 hK15 => ?_
      refine WC.region ?_
      refine WL.pure (v := .slice p n cap) 31 rfl (Nat.le_of_ble_eq_true rfl) rfl rfl (by kernel_rfl) ?_
      refine WL.call (f := 37) (args := #[.slice p n cap]) 32 rfl (Nat.le_of_ble_eq_true rfl) rfl rfl (by kernel_rfl) ?_
      refine (rTrim_any _ _ _ c A B _ (hR.below (HP.below hH14)) (by omega)).mono ?_
      rintro e w2 (⟨-, rfl, hb⟩ | ⟨hck2, -⟩)
      rotate_left
      · exact absurd hck2 hck
      refine ⟨_, rfl, ?_⟩
      have hH16 : HP Tr w _ [.own (.slice pv n cp) n (insL c A B n) 23 3] := HP.call hH14 hb
      refine WL.pure (v := .tuple #[.slice none 0 0, vI (chk c A B false n)]) 30 rfl (Nat.le_of_ble_eq_true rfl) rfl rfl (by kernel_rfl) ?_
      refine WL.pure (v := .slice none 0 0) 33 rfl (Nat.le_of_ble_eq_true rfl) rfl rfl (by kernel_rfl) ?_
      refine WL.pure (v := vI (chk c A B false n)) 34 rfl (Nat.le_of_ble_eq_true rfl) rfl rfl (by kernel_rfl) ?_
      refine WL.pure (v := .slice none 0 0) 8 rfl (Nat.le_of_ble_eq_true rfl) rfl rfl (by kernel_rfl) ?_
      refine WL.pure (v := vI (chk c A B false n)) 9 rfl (Nat.le_of_ble_eq_true rfl) rfl rfl (by kernel_rfl) ?_
      refine WL.nil ?_
      refine WQ.then ?_
      refine hK15 _ _ _ ?_
      refine WC.seq fun K17 hK17 => ?_
      refine WC.region ?_
      refine WL.pure (v := .slice pv n cp) 36 rfl (Nat.le_of_ble_eq_true rfl) rfl rfl (by kernel_rfl) ?_
      refine WL.pure (v := vI op) 37 rfl (Nat.le_of_ble_eq_true rfl) rfl rfl (by kernel_rfl) ?_
      refine WL.call (f := 38) (args := #[.slice pv n cp, vI op]) 38 rfl (Nat.le_of_ble_eq_true rfl) rfl rfl (by kernel_rfl) ?_
      refine (Count_any _ _ _ c A B op _ (own_rowIn (HP.get hH16 0 rfl)) (by omega)).mono ?_
      rintro e w18 ⟨rfl, hb19⟩
      refine ⟨_, rfl, ?_⟩
      have hH20 : HP Tr w _ [.own (.slice pv n cp) n (insL c A B n) 23 3] := HP.call hH16 hb19
      refine WL.pure (v := .tuple #[vI (coN c A B n op), vI (coF c A B n op)]) 35 rfl (Nat.le_of_ble_eq_true rfl) rfl rfl (by kernel_rfl) ?_
      refine WL.pure (v := vI (coN c A B n op)) 39 rfl (Nat.le_of_ble_eq_true rfl) rfl rfl (by kernel_rfl) ?_
      refine WL.pure (v := vI (coF c A B n op)) 40 rfl (Nat.le_of_ble_eq_true rfl) rfl rfl (by kernel_rfl) ?_
      refine WL.pure (v := vI (coN c A B n op)) 10 rfl (Nat.le_of_ble_eq_true rfl) rfl rfl (by kernel_rfl) ?_
      refine WL.pure (v := vI (coF c A B n op)) 11 rfl (Nat.le_of_ble_eq_true rfl) rfl rfl (by kernel_rfl) ?_
      refine WL.nil ?_
      refine WQ.then ?_
      refine hK17 _ _ _ ?_
      refine WC.sub (l' := [(0, .slice p n cap), (1, vI op), (4, .bool false), (5, .slice pv n cp), (6, .slice none 0 0), (7, vI (chk c A B false n)), (8, .slice none 0 0), (9, vI (chk c A B false n)), (10, vI (coN c A B n op)), (11, vI (coF c A B n op)), (21, .bool false)]) ⟨rfl, rfl, rfl, rfl, rfl, rfl, rfl, rfl, rfl, rfl, rfl, trivial⟩ ?_
      refine WC.seq fun K21 hK21 => ?_
      refine WC.region ?_
      refine WL.pure (v := .slice p n cap) 42 rfl (Nat.le_of_ble_eq_true rfl) rfl rfl (by kernel_rfl) ?_
      refine WL.pure (v := vI op) 43 rfl (Nat.le_of_ble_eq_true rfl) rfl rfl (by kernel_rfl) ?_
      refine WL.call (f := 39) (args := #[.slice p n cap, vI op]) 44 rfl (Nat.le_of_ble_eq_true rfl) rfl rfl (by kernel_rfl) ?_
      refine (rCount_any _ _ _ c A B op _ (hR.below (HP.below hH20)) (by omega)).mono ?_
      rintro e w22 ⟨rfl, hb23⟩
      refine ⟨_, rfl, ?_⟩
      have hH24 : HP Tr w _ [.own (.slice pv n cp) n (insL c A B n) 23 3] := HP.call hH20 hb23
      refine WL.pure (v := .tuple #[vI (coN c A B n op), vI (coF c A B n op)]) 41 rfl (Nat.le_of_ble_eq_true rfl) rfl rfl (by kernel_rfl) ?_
      refine WL.pure (v := vI (coN c A B n op)) 45 rfl (Nat.le_of_ble_eq_true rfl) rfl rfl (by kernel_rfl) ?_
      refine WL.pure (v := vI (coF c A B n op)) 46 rfl (Nat.le_of_ble_eq_true rfl) rfl rfl (by kernel_rfl) ?_
      refine WL.pure (v := vI (coN c A B n op)) 12 rfl (Nat.le_of_ble_eq_true rfl) rfl rfl (by kernel_rfl) ?_
      refine WL.pure (v := vI (coF c A B n op)) 13 rfl (Nat.le_of_ble_eq_true rfl) rfl rfl (by kernel_rfl) ?_
      refine WL.nil ?_
      refine WQ.then ?_
      refine hK21 _ _ _ ?_
      refine WC.sub (l' := [(0, .slice p n cap), (1, vI op), (4, .bool false), (5, .slice pv n cp), (6, .slice none 0 0), (7, vI (chk c A B false n)), (8, .slice none 0 0), (9, vI (chk c A B false n)), (10, vI (coN c A B n op)), (11, vI (coF c A B n op)), (12, vI (coN c A B n op)), (13, vI (coF c A B n op)), (21, .bool false)]) ⟨rfl, rfl, rfl, rfl, rfl, rfl, rfl, rfl, rfl, rfl, rfl, rfl, rfl, trivial⟩ ?_
      refine WC.seq fun K25 hK25 => ?_
      refine WC.seq fun K26 hK26 => ?_
      refine WC.region ?_
      refine WL.pure (v := .slice none 0 0) 47 rfl (Nat.le_of_ble_eq_true rfl) rfl rfl (by kernel_rfl) ?_
      refine WL.pure (v := .slice none 0 0) 48 rfl (Nat.le_of_ble_eq_true rfl) rfl rfl (by kernel_rfl) ?_
      refine WL.call (f := 18) (args := #[.slice none 0 0, .slice none 0 0]) 49 rfl (Nat.le_of_ble_eq_true rfl) rfl rfl (by kernel_rfl) ?_
      refine (Same_any none none 0 0 0 c A B _ (fun h => absurd h (by omega)) (fun h => absurd h (by omega)) (by omega)).mono ?_
      rintro e w27 ⟨rfl, hb28⟩
      refine ⟨_, rfl, ?_⟩
      have hH29 : HP Tr w _ [.own (.slice pv n cp) n (insL c A B n) 23 3] := HP.call hH24 hb28
      refine WL.pure (v := .bool false) 50 rfl (Nat.le_of_ble_eq_true rfl) rfl rfl (by kernel_rfl) ?_
      refine WL.pure (v := .bool false) 51 rfl (Nat.le_of_ble_eq_true rfl) rfl rfl (by kernel_rfl) ?_
      refine WL.pure (v := vI (chk c A B false n)) 52 rfl (Nat.le_of_ble_eq_true rfl) rfl rfl (by kernel_rfl) ?_
      refine WL.pure (v := vI (chk c A B false n)) 53 rfl (Nat.le_of_ble_eq_true rfl) rfl rfl (by kernel_rfl) ?_
      refine WL.pure (v := .bool false) 54 rfl (Nat.le_of_ble_eq_true rfl) rfl rfl (x_neq rfl rfl rfl (dF (fun h => h rfl))) ?_
      refine WL.pure (v := .bool false) 55 rfl (Nat.le_of_ble_eq_true rfl) rfl rfl (by kernel_rfl) ?_
      refine WL.pure (v := .bool false) 56 rfl (Nat.le_of_ble_eq_true rfl) rfl rfl (by kernel_rfl) ?_
      refine WL.pure (v := vI (coN c A B n op)) 57 rfl (Nat.le_of_ble_eq_true rfl) rfl rfl (by kernel_rfl) ?_
      refine WL.pure (v := vI (coN c A B n op)) 58 rfl (Nat.le_of_ble_eq_true rfl) rfl rfl (by kernel_rfl) ?_
      refine WL.pure (v := .bool false) 59 rfl (Nat.le_of_ble_eq_true rfl) rfl rfl (x_neq rfl rfl rfl (dF (fun h => h rfl))) ?_
      refine WL.pure (v := .bool false) 60 rfl (Nat.le_of_ble_eq_true rfl) rfl rfl (by kernel_rfl) ?_
      refine WL.pure (v := .bool false) 61 rfl (Nat.le_of_ble_eq_true rfl) rfl rfl (by kernel_rfl) ?_
      refine WL.pure (v := vI (coF c A B n op)) 62 rfl (Nat.le_of_ble_eq_true rfl) rfl rfl (by kernel_rfl) ?_
      refine WL.pure (v := vI (coF c A B n op)) 63 rfl (Nat.le_of_ble_eq_true rfl) rfl rfl (by kernel_rfl) ?_
      refine WL.pure (v := .bool false) 64 rfl (Nat.le_of_ble_eq_true rfl) rfl rfl (x_neq rfl rfl rfl (dF (fun h => h rfl))) ?_
      refine WL.pure (v := .bool false) 65 rfl (Nat.le_of_ble_eq_true rfl) rfl rfl (by kernel_rfl) ?_
      refine WL.pure (v := .bool false) 66 rfl (Nat.le_of_ble_eq_true rfl) rfl rfl (by kernel_rfl) ?_
      refine WL.pure (v := .slice p n cap) 67 rfl (Nat.le_of_ble_eq_true rfl) rfl rfl (by kernel_rfl) ?_
      refine WL.pure (v := .slice pv n cp) 68 rfl (Nat.le_of_ble_eq_true rfl) rfl rfl (by kernel_rfl) ?_
      refine WL.call (f := 18) (args := #[.slice p n cap, .slice pv n cp]) 69 rfl (Nat.le_of_ble_eq_true rfl) rfl rfl (by kernel_rfl) ?_
      refine (Same_any _ _ _ _ _ c A B _ (hR.below (HP.below hH29)).inC (own_rowIn (HP.get hH29 0 rfl)).inC (by omega)).mono ?_
      rintro e w30 ⟨rfl, hb31⟩
      refine ⟨_, rfl, ?_⟩
      have hH32 : HP Tr w _ [.own (.slice pv n cp) n (insL c A B n) 23 3] := HP.call hH29 hb31
      refine WL.pure (v := .bool false) 70 rfl (Nat.le_of_ble_eq_true rfl) rfl rfl (by kernel_rfl) ?_
      refine WL.pure (v := .bool false) 71 rfl (Nat.le_of_ble_eq_true rfl) rfl rfl (by kernel_rfl) ?_
      refine WL.nil ?_
      refine WQ.then ?_
      refine hK26 _ _ _ ?_
      refine WC.sub (l' := [(0, .slice p n cap), (1, vI op), (4, .bool false), (5, .slice pv n cp), (6, .slice none 0 0), (7, vI (chk c A B false n)), (8, .slice none 0 0), (9, vI (chk c A B false n)), (10, vI (coN c A B n op)), (11, vI (coF c A B n op)), (12, vI (coN c A B n op)), (13, vI (coF c A B n op)), (21, .bool false), (71, .bool false)]) ⟨rfl, rfl, rfl, rfl, rfl, rfl, rfl, rfl, rfl, rfl, rfl, rfl, rfl, rfl, trivial⟩ ?_
      refine WC.no rfl ?_
      refine WC.skip ?_
      refine WQ.then ?_
      refine hK25 _ _ _ ?_
      refine WC.seq fun K33 hK33 => ?_
      refine WC.seq fun K34 hK34 => ?_
      refine WC.region ?_
      refine WL.pure (v := vI (chk c A B false n)) 72 rfl (Nat.le_of_ble_eq_true rfl) rfl rfl (by kernel_rfl) ?_
      refine WL.pure (v := .bool false) 73 rfl (Nat.le_of_ble_eq_true rfl) rfl rfl (x_eql rfl rfl rfl (dF (hck))) ?_
      refine WL.nil ?_
      refine WQ.then ?_
      refine hK34 _ _ _ ?_
      refine WC.no rfl ?_
      refine WC.skip ?_
      refine WQ.then ?_
      refine hK33 _ _ _ ?_
      refine WC.seq fun K35 hK35 => ?_
      refine WC.region ?_
      refine WL.call (f := 14) (args := #[]) 119 rfl (Nat.le_of_ble_eq_true rfl) rfl rfl (by kernel_rfl) ?_
      refine (sane_any _).mono ?_
      rintro e w36 ⟨rfl, hb37⟩
      refine ⟨_, rfl, ?_⟩
      have hH38 : HP Tr w _ [.own (.slice pv n cp) n (insL c A B n) 23 3] := HP.call hH32 hb37
      refine WL.pure (v := .bool true) 4 rfl (Nat.le_of_ble_eq_true rfl) rfl rfl (by kernel_rfl) ?_
      refine WL.nil ?_
      refine WQ.then ?_
      refine hK35 _ _ _ ?_
      refine WC.ret ?_
      refine WQ.ret1 4 rfl rfl ?_
      exact ⟨rfl, HP.below hH38⟩
    ·
      refine ⟨_, rfl, ?_⟩
      have hH39 : HP Tr w _ [.own (.slice pv n cp) n (insL c A B n) 23 3, .own (.slice pv2 (rk c n) cp2) (rk c n) (insL (fil c n c) (fil c n A) (fil c n B) (rk c n)) 23 3] := HP.trans hH12 hb
      refine WL.pure (v := .tuple #[.slice pv2 (rk c n) cp2, vI 0]) 25 rfl (Nat.le_of_ble_eq_true rfl) rfl rfl (by kernel_rfl) ?_
      refine WL.pure (v := .slice pv2 (rk c n) cp2) 28 rfl (Nat.le_of_ble_eq_true rfl) rfl rfl (by kernel_rfl) ?_
      refine WL.pure (v := vI 0) 29 rfl (Nat.le_of_ble_eq_true rfl) rfl rfl (by kernel_rfl) ?_
      refine WL.pure (v := .slice pv2 (rk c n) cp2) 6 rfl (Nat.le_of_ble_eq_true rfl) rfl rfl (by kernel_rfl) ?_
      refine WL.pure (v := vI 0) 7 rfl (Nat.le_of_ble_eq_true rfl) rfl rfl (by kernel_rfl) ?_
      refine WL.nil ?_
      refine WQ.then ?_
      refine hK13 _ _ _ ?_
      refine WC.sub (l' := [(0, .slice p n cap), (1, vI op), (4, .bool false), (5, .slice pv n cp), (6, .slice pv2 (rk c n) cp2), (7, vI 0), (21, .bool false)]) ⟨rfl, rfl, rfl, rfl, rfl, rfl, rfl, trivial⟩ ?_
      refine WC.seq fun K40 hK40 => ?_
      refine WC.region ?_
      refine WL.pure (v := .slice p n cap) 31 rfl (Nat.le_of_ble_eq_true rfl) rfl rfl (by kernel_rfl) ?_
      refine WL.call (f := 37) (args := #[.slice p n cap]) 32 rfl (Nat.le_of_ble_eq_true rfl) rfl rfl (by kernel_rfl) ?_
      refine (rTrim_any _ _ _ c A B _ (hR.below (HP.below hH39)) (by omega)).mono ?_
      rintro e w2 (⟨hck2, -⟩ | ⟨-, pv3, cp3, rfl, hb⟩)
      · exact absurd hck hck2
      refine ⟨_, rfl, ?_⟩
      have hH41 : HP Tr w _ [.own (.slice pv n cp) n (insL c A B n) 23 3, .own (.slice pv2 (rk c n) cp2) (rk c n) (insL (fil c n c) (fil c n A) (fil c n B) (rk c n)) 23 3, .own (.slice pv3 (rk c n) cp3) (rk c n) (insL (fil c n c) (fil c n A) (fil c n B) (rk c n)) 23 3] := HP.trans hH39 hb
      have hrn := rk_le c n
      refine WL.pure (v := .tuple #[.slice pv3 (rk c n) cp3, vI 0]) 30 rfl (Nat.le_of_ble_eq_true rfl) rfl rfl (by kernel_rfl) ?_
      refine WL.pure (v := .slice pv3 (rk c n) cp3) 33 rfl (Nat.le_of_ble_eq_true rfl) rfl rfl (by kernel_rfl) ?_
      refine WL.pure (v := vI 0) 34 rfl (Nat.le_of_ble_eq_true rfl) rfl rfl (by kernel_rfl) ?_
      refine WL.pure (v := .slice pv3 (rk c n) cp3) 8 rfl (Nat.le_of_ble_eq_true rfl) rfl rfl (by kernel_rfl) ?_
      refine WL.pure (v := vI 0) 9 rfl (Nat.le_of_ble_eq_true rfl) rfl rfl (by kernel_rfl) ?_
      refine WL.nil ?_
      refine WQ.then ?_
      refine hK40 _ _ _ ?_
      refine WC.seq fun K42 hK42 => ?_
      refine WC.region ?_
      refine WL.pure (v := .slice pv n cp) 36 rfl (Nat.le_of_ble_eq_true rfl) rfl rfl (by kernel_rfl) ?_
      refine WL.pure (v := vI op) 37 rfl (Nat.le_of_ble_eq_true rfl) rfl rfl (by kernel_rfl) ?_
      refine WL.call (f := 38) (args := #[.slice pv n cp, vI op]) 38 rfl (Nat.le_of_ble_eq_true rfl) rfl rfl (by kernel_rfl) ?_
      refine (Count_any _ _ _ c A B op _ (own_rowIn (HP.get hH41 0 rfl)) (by omega)).mono ?_
      rintro e w43 ⟨rfl, hb44⟩
      refine ⟨_, rfl, ?_⟩
      have hH45 : HP Tr w _ [.own (.slice pv n cp) n (insL c A B n) 23 3, .own (.slice pv2 (rk c n) cp2) (rk c n) (insL (fil c n c) (fil c n A) (fil c n B) (rk c n)) 23 3, .own (.slice pv3 (rk c n) cp3) (rk c n) (insL (fil c n c) (fil c n A) (fil c n B) (rk c n)) 23 3] := HP.call hH41 hb44
      refine WL.pure (v := .tuple #[vI (coN c A B n op), vI (coF c A B n op)]) 35 rfl (Nat.le_of_ble_eq_true rfl) rfl rfl (by kernel_rfl) ?_
      refine WL.pure (v := vI (coN c A B n op)) 39 rfl (Nat.le_of_ble_eq_true rfl) rfl rfl (by kernel_rfl) ?_
      refine WL.pure (v := vI (coF c A B n op)) 40 rfl (Nat.le_of_ble_eq_true rfl) rfl rfl (by kernel_rfl) ?_
      refine WL.pure (v := vI (coN c A B n op)) 10 rfl (Nat.le_of_ble_eq_true rfl) rfl rfl (by kernel_rfl) ?_
      refine WL.pure (v := vI (coF c A B n op)) 11 rfl (Nat.le_of_ble_eq_true rfl) rfl rfl (by kernel_rfl) ?_
      refine WL.nil ?_
      refine WQ.then ?_
      refine hK42 _ _ _ ?_
      refine WC.sub (l' := [(0, .slice p n cap), (1, vI op), (4, .bool false), (5, .slice pv n cp), (6, .slice pv2 (rk c n) cp2), (7, vI 0), (8, .slice pv3 (rk c n) cp3), (9, vI 0), (10, vI (coN c A B n op)), (11, vI (coF c A B n op)), (21, .bool false)]) ⟨rfl, rfl, rfl, rfl, rfl, rfl, rfl, rfl, rfl, rfl, rfl, trivial⟩ ?_
      refine WC.seq fun K46 hK46 => ?_
      refine WC.region ?_
      refine WL.pure (v := .slice p n cap) 42 rfl (Nat.le_of_ble_eq_true rfl) rfl rfl (by kernel_rfl) ?_
      refine WL.pure (v := vI op) 43 rfl (Nat.le_of_ble_eq_true rfl) rfl rfl (by kernel_rfl) ?_
      refine WL.call (f := 39) (args := #[.slice p n cap, vI op]) 44 rfl (Nat.le_of_ble_eq_true rfl) rfl rfl (by kernel_rfl) ?_
      refine (rCount_any _ _ _ c A B op _ (hR.below (HP.below hH45)) (by omega)).mono ?_
      rintro e w47 ⟨rfl, hb48⟩
      refine ⟨_, rfl, ?_⟩
      have hH49 : HP Tr w _ [.own (.slice pv n cp) n (insL c A B n) 23 3, .own (.slice pv2 (rk c n) cp2) (rk c n) (insL (fil c n c) (fil c n A) (fil c n B) (rk c n)) 23 3, .own (.slice pv3 (rk c n) cp3) (rk c n) (insL (fil c n c) (fil c n A) (fil c n B) (rk c n)) 23 3] := HP.call hH45 hb48
      refine WL.pure (v := .tuple #[vI (coN c A B n op), vI (coF c A B n op)]) 41 rfl (Nat.le_of_ble_eq_true rfl) rfl rfl (by kernel_rfl) ?_
      refine WL.pure (v := vI (coN c A B n op)) 45 rfl (Nat.le_of_ble_eq_true rfl) rfl rfl (by kernel_rfl) ?_
      refine WL.pure (v := vI (coF c A B n op)) 46 rfl (Nat.le_of_ble_eq_true rfl) rfl rfl (by kernel_rfl) ?_
      refine WL.pure (v := vI (coN c A B n op)) 12 rfl (Nat.le_of_ble_eq_true rfl) rfl rfl (by kernel_rfl) ?_
      refine WL.pure (v := vI (coF c A B n op)) 13 rfl (Nat.le_of_ble_eq_true rfl) rfl rfl (by kernel_rfl) ?_
      refine WL.nil ?_
      refine WQ.then ?_
      refine hK46 _ _ _ ?_
      refine WC.sub (l' := [(0, .slice p n cap), (1, vI op), (4, .bool false), (5, .slice pv n cp), (6, .slice pv2 (rk c n) cp2), (7, vI 0), (8, .slice pv3 (rk c n) cp3), (9, vI 0), (10, vI (coN c A B n op)), (11, vI (coF c A B n op)), (12, vI (coN c A B n op)), (13, vI (coF c A B n op)), (21, .bool false)]) ⟨rfl, rfl, rfl, rfl, rfl, rfl, rfl, rfl, rfl, rfl, rfl, rfl, rfl, trivial⟩ ?_
      refine WC.seq fun K50 hK50 => ?_
      refine WC.seq fun K51 hK51 => ?_
      refine WC.region ?_
      refine WL.pure (v := .slice pv2 (rk c n) cp2) 47 rfl (Nat.le_of_ble_eq_true rfl) rfl rfl (by kernel_rfl) ?_
      refine WL.pure (v := .slice pv3 (rk c n) cp3) 48 rfl (Nat.le_of_ble_eq_true rfl) rfl rfl (by kernel_rfl) ?_
      refine WL.call (f := 18) (args := #[.slice pv2 (rk c n) cp2, .slice pv3 (rk c n) cp3]) 49 rfl (Nat.le_of_ble_eq_true rfl) rfl rfl (by kernel_rfl) ?_
      refine (Same_any _ _ _ _ _ (fil c n c) (fil c n A) (fil c n B) _ (own_rowIn (HP.get hH49 1 rfl)).inC (own_rowIn (HP.get hH49 2 rfl)).inC (by omega)).mono ?_
      rintro e w52 ⟨rfl, hb53⟩
      refine ⟨_, rfl, ?_⟩
      have hH54 : HP Tr w _ [.own (.slice pv n cp) n (insL c A B n) 23 3, .own (.slice pv2 (rk c n) cp2) (rk c n) (insL (fil c n c) (fil c n A) (fil c n B) (rk c n)) 23 3, .own (.slice pv3 (rk c n) cp3) (rk c n) (insL (fil c n c) (fil c n A) (fil c n B) (rk c n)) 23 3] := HP.call hH49 hb53
      refine WL.pure (v := .bool false) 50 rfl (Nat.le_of_ble_eq_true rfl) rfl rfl (by kernel_rfl) ?_
      refine WL.pure (v := .bool false) 51 rfl (Nat.le_of_ble_eq_true rfl) rfl rfl (by kernel_rfl) ?_
      refine WL.pure (v := vI 0) 52 rfl (Nat.le_of_ble_eq_true rfl) rfl rfl (by kernel_rfl) ?_
      refine WL.pure (v := vI 0) 53 rfl (Nat.le_of_ble_eq_true rfl) rfl rfl (by kernel_rfl) ?_
      refine WL.pure (v := .bool false) 54 rfl (Nat.le_of_ble_eq_true rfl) rfl rfl (x_neq rfl rfl rfl (by decide)) ?_
      refine WL.pure (v := .bool false) 55 rfl (Nat.le_of_ble_eq_true rfl) rfl rfl (by kernel_rfl) ?_
      refine WL.pure (v := .bool false) 56 rfl (Nat.le_of_ble_eq_true rfl) rfl rfl (by kernel_rfl) ?_
      refine WL.pure (v := vI (coN c A B n op)) 57 rfl (Nat.le_of_ble_eq_true rfl) rfl rfl (by kernel_rfl) ?_
      refine WL.pure (v := vI (coN c A B n op)) 58 rfl (Nat.le_of_ble_eq_true rfl) rfl rfl (by kernel_rfl) ?_
      refine WL.pure (v := .bool false) 59 rfl (Nat.le_of_ble_eq_true rfl) rfl rfl (x_neq rfl rfl rfl (dF (fun h => h rfl))) ?_
      refine WL.pure (v := .bool false) 60 rfl (Nat.le_of_ble_eq_true rfl) rfl rfl (by kernel_rfl) ?_
      refine WL.pure (v := .bool false) 61 rfl (Nat.le_of_ble_eq_true rfl) rfl rfl (by kernel_rfl) ?_
      refine WL.pure (v := vI (coF c A B n op)) 62 rfl (Nat.le_of_ble_eq_true rfl) rfl rfl (by kernel_rfl) ?_
      refine WL.pure (v := vI (coF c A B n op)) 63 rfl (Nat.le_of_ble_eq_true rfl) rfl rfl (by kernel_rfl) ?_
      refine WL.pure (v := .bool false) 64 rfl (Nat.le_of_ble_eq_true rfl) rfl rfl (x_neq rfl rfl rfl (dF (fun h => h rfl))) ?_
      refine WL.pure (v := .bool false) 65 rfl (Nat.le_of_ble_eq_true rfl) rfl rfl (by kernel_rfl) ?_
      refine WL.pure (v := .bool false) 66 rfl (Nat.le_of_ble_eq_true rfl) rfl rfl (by kernel_rfl) ?_
      refine WL.pure (v := .slice p n cap) 67 rfl (Nat.le_of_ble_eq_true rfl) rfl rfl (by kernel_rfl) ?_
      refine WL.pure (v := .slice pv n cp) 68 rfl (Nat.le_of_ble_eq_true rfl) rfl rfl (by kernel_rfl) ?_
      refine WL.call (f := 18) (args := #[.slice p n cap, .slice pv n cp]) 69 rfl (Nat.le_of_ble_eq_true rfl) rfl rfl (by kernel_rfl) ?_
      refine (Same_any _ _ _ _ _ c A B _ (hR.below (HP.below hH54)).inC (own_rowIn (HP.get hH54 0 rfl)).inC (by omega)).mono ?_
      rintro e w55 ⟨rfl, hb56⟩
      refine ⟨_, rfl, ?_⟩
      have hH57 : HP Tr w _ [.own (.slice pv n cp) n (insL c A B n) 23 3, .own (.slice pv2 (rk c n) cp2) (rk c n) (insL (fil c n c) (fil c n A) (fil c n B) (rk c n)) 23 3, .own (.slice pv3 (rk c n) cp3) (rk c n) (insL (fil c n c) (fil c n A) (fil c n B) (rk c n)) 23 3] := HP.call hH54 hb56
      refine WL.pure (v := .bool false) 70 rfl (Nat.le_of_ble_eq_true rfl) rfl rfl (by kernel_rfl) ?_
      refine WL.pure (v := .bool false) 71 rfl (Nat.le_of_ble_eq_true rfl) rfl rfl (by kernel_rfl) ?_
      refine WL.nil ?_
      refine WQ.then ?_
      refine hK51 _ _ _ ?_
      refine WC.sub (l' := [(0, .slice p n cap), (1, vI op), (4, .bool false), (5, .slice pv n cp), (6, .slice pv2 (rk c n) cp2), (7, vI 0), (8, .slice pv3 (rk c n) cp3), (9, vI 0), (10, vI (coN c A B n op)), (11, vI (coF c A B n op)), (12, vI (coN c A B n op)), (13, vI (coF c A B n op)), (21, .bool false), (71, .bool false)]) ⟨rfl, rfl, rfl, rfl, rfl, rfl, rfl, rfl, rfl, rfl, rfl, rfl, rfl, rfl, trivial⟩ ?_
      refine WC.no rfl ?_
      refine WC.skip ?_
      refine WQ.then ?_
      refine hK50 _ _ _ ?_
      refine WC.seq fun K58 hK58 => ?_
      refine WC.seq fun K59 hK59 => ?_
      refine WC.region ?_
      refine WL.pure (v := vI 0) 72 rfl (Nat.le_of_ble_eq_true rfl) rfl rfl (by kernel_rfl) ?_
      refine WL.pure (v := .bool true) 73 rfl (Nat.le_of_ble_eq_true rfl) rfl rfl (x_eql rfl rfl rfl (by decide)) ?_
      refine WL.nil ?_
      refine WQ.then ?_
      refine hK59 _ _ _ ?_
      refine WC.yes rfl ?_
      refine WC.seq fun K60 hK60 => ?_
      refine WC.region ?_
      refine WL.pure (v := .slice pv2 (rk c n) cp2) 75 rfl (Nat.le_of_ble_eq_true rfl) rfl rfl (by kernel_rfl) ?_
      refine WL.pure (v := vI op) 76 rfl (Nat.le_of_ble_eq_true rfl) rfl rfl (by kernel_rfl) ?_
      refine WL.call (f := 38) (args := #[.slice pv2 (rk c n) cp2, vI op]) 77 rfl (Nat.le_of_ble_eq_true rfl) rfl rfl (by kernel_rfl) ?_
      refine (Count_any _ _ _ (fil c n c) (fil c n A) (fil c n B) op _ (own_rowIn (HP.get hH57 1 rfl)) (by omega)).mono ?_
      rintro e w61 ⟨rfl, hb62⟩
      refine ⟨_, rfl, ?_⟩
      have hH63 : HP Tr w _ [.own (.slice pv n cp) n (insL c A B n) 23 3, .own (.slice pv2 (rk c n) cp2) (rk c n) (insL (fil c n c) (fil c n A) (fil c n B) (rk c n)) 23 3, .own (.slice pv3 (rk c n) cp3) (rk c n) (insL (fil c n c) (fil c n A) (fil c n B) (rk c n)) 23 3] := HP.call hH57 hb62
      refine WL.pure (v := .tuple #[vI (coN (fil c n c) (fil c n A) (fil c n B) (rk c n) op), vI (coF (fil c n c) (fil c n A) (fil c n B) (rk c n) op)]) 74 rfl (Nat.le_of_ble_eq_true rfl) rfl rfl (by kernel_rfl) ?_
      refine WL.pure (v := vI (coN (fil c n c) (fil c n A) (fil c n B) (rk c n) op)) 78 rfl (Nat.le_of_ble_eq_true rfl) rfl rfl (by kernel_rfl) ?_
      refine WL.pure (v := vI (coF (fil c n c) (fil c n A) (fil c n B) (rk c n) op)) 79 rfl (Nat.le_of_ble_eq_true rfl) rfl rfl (by kernel_rfl) ?_
      refine WL.pure (v := vI (coN (fil c n c) (fil c n A) (fil c n B) (rk c n) op)) 14 rfl (Nat.le_of_ble_eq_true rfl) rfl rfl (by kernel_rfl) ?_
      refine WL.pure (v := vI (coF (fil c n c) (fil c n A) (fil c n B) (rk c n) op)) 15 rfl (Nat.le_of_ble_eq_true rfl) rfl rfl (by kernel_rfl) ?_
      refine WL.nil ?_
      refine WQ.then ?_
      refine hK60 _ _ _ ?_
      refine WC.sub (l' := [(0, .slice p n cap), (1, vI op), (4, .bool false), (5, .slice pv n cp), (6, .slice pv2 (rk c n) cp2), (7, vI 0), (8, .slice pv3 (rk c n) cp3), (9, vI 0), (10, vI (coN c A B n op)), (11, vI (coF c A B n op)), (12, vI (coN c A B n op)), (13, vI (coF c A B n op)), (14, vI (coN (fil c n c) (fil c n A) (fil c n B) (rk c n) op)), (15, vI (coF (fil c n c) (fil c n A) (fil c n B) (rk c n) op)), (21, .bool false), (71, .bool false), (73, .bool true)]) ⟨rfl, rfl, rfl, rfl, rfl, rfl, rfl, rfl, rfl, rfl, rfl, rfl, rfl, rfl, rfl, rfl, rfl, trivial⟩ ?_
      refine WC.seq fun K64 hK64 => ?_
      refine WC.region ?_
      refine WL.pure (v := .slice pv2 (rk c n) cp2) 81 rfl (Nat.le_of_ble_eq_true rfl) rfl rfl (by kernel_rfl) ?_
      refine WL.call (f := 38) (args := #[.slice pv2 (rk c n) cp2, vI 0]) 82 rfl (Nat.le_of_ble_eq_true rfl) rfl rfl (by kernel_rfl) ?_
      refine (Count_any _ _ _ (fil c n c) (fil c n A) (fil c n B) 0 _ (own_rowIn (HP.get hH63 1 rfl)) (by omega)).mono ?_
      rintro e w65 ⟨rfl, hb66⟩
      refine ⟨_, rfl, ?_⟩
      have hH67 : HP Tr w _ [.own (.slice pv n cp) n (insL c A B n) 23 3, .own (.slice pv2 (rk c n) cp2) (rk c n) (insL (fil c n c) (fil c n A) (fil c n B) (rk c n)) 23 3, .own (.slice pv3 (rk c n) cp3) (rk c n) (insL (fil c n c) (fil c n A) (fil c n B) (rk c n)) 23 3] := HP.call hH63 hb66
      refine WL.pure (v := .tuple #[vI (coN (fil c n c) (fil c n A) (fil c n B) (rk c n) 0), vI (coF (fil c n c) (fil c n A) (fil c n B) (rk c n) 0)]) 80 rfl (Nat.le_of_ble_eq_true rfl) rfl rfl (by kernel_rfl) ?_
      refine WL.pure (v := vI (coN (fil c n c) (fil c n A) (fil c n B) (rk c n) 0)) 83 rfl (Nat.le_of_ble_eq_true rfl) rfl rfl (by kernel_rfl) ?_
      refine WL.pure (v := vI (coF (fil c n c) (fil c n A) (fil c n B) (rk c n) 0)) 84 rfl (Nat.le_of_ble_eq_true rfl) rfl rfl (by kernel_rfl) ?_
      refine WL.pure (v := vI (coN (fil c n c) (fil c n A) (fil c n B) (rk c n) 0)) 16 rfl (Nat.le_of_ble_eq_true rfl) rfl rfl (by kernel_rfl) ?_
      refine WL.pure (v := vI (coF (fil c n c) (fil c n A) (fil c n B) (rk c n) 0)) 17 rfl (Nat.le_of_ble_eq_true rfl) rfl rfl (by kernel_rfl) ?_
      refine WL.nil ?_
      refine WQ.then ?_
      refine hK64 _ _ _ ?_
      refine WC.seq fun K68 hK68 => ?_
      refine WC.seq fun K69 hK69 => ?_
      refine WC.region ?_
      refine WL.pure (v := vI op) 85 rfl (Nat.le_of_ble_eq_true rfl) rfl rfl (by kernel_rfl) ?_
      by_cases ho : op ≠ 0
      ·
        refine WL.pure (v := .bool true) 86 rfl (Nat.le_of_ble_eq_true rfl) rfl rfl (x_neq rfl rfl rfl (dT (ho))) ?_
        refine WL.pure (v := .bool true) 87 rfl (Nat.le_of_ble_eq_true rfl) rfl rfl (by kernel_rfl) ?_
        refine WL.pure (v := vI (coN (fil c n c) (fil c n A) (fil c n B) (rk c n) op)) 88 rfl (Nat.le_of_ble_eq_true rfl) rfl rfl (by kernel_rfl) ?_
        refine WL.pure (v := vI (coN c A B n op)) 89 rfl (Nat.le_of_ble_eq_true rfl) rfl rfl (by kernel_rfl) ?_
        refine WL.pure (v := .bool false) 90 rfl (Nat.le_of_ble_eq_true rfl) rfl rfl (x_neq rfl rfl rfl (dF (fun h => h (co_fil hck ho).2))) ?_
        refine WL.pure (v := .bool false) 91 rfl (Nat.le_of_ble_eq_true rfl) rfl rfl (by kernel_rfl) ?_
        refine WL.pure (v := vI (coF (fil c n c) (fil c n A) (fil c n B) (rk c n) op)) 92 rfl (Nat.le_of_ble_eq_true rfl) rfl rfl (by kernel_rfl) ?_
        refine WL.pure (v := vI (coF c A B n op)) 93 rfl (Nat.le_of_ble_eq_true rfl) rfl rfl (by kernel_rfl) ?_
        refine WL.pure (v := .bool false) 94 rfl (Nat.le_of_ble_eq_true rfl) rfl rfl (x_neq rfl rfl rfl (dF (fun h => h (co_fil hck ho).1))) ?_
        refine WL.pure (v := .bool false) 95 rfl (Nat.le_of_ble_eq_true rfl) rfl rfl (by kernel_rfl) ?_
        refine WL.pure (v := .bool false) 96 rfl (Nat.le_of_ble_eq_true rfl) rfl rfl (by kernel_rfl) ?_
        refine WL.pure (v := .bool false) 97 rfl (Nat.le_of_ble_eq_true rfl) rfl rfl (by kernel_rfl) ?_
        refine WL.pure (v := vI (coN (fil c n c) (fil c n A) (fil c n B) (rk c n) 0)) 98 rfl (Nat.le_of_ble_eq_true rfl) rfl rfl (by kernel_rfl) ?_
        refine WL.pure (v := .bool false) 99 rfl (Nat.le_of_ble_eq_true rfl) rfl rfl (x_neq rfl rfl rfl (dF (fun h => h (co_fil0 hck).2))) ?_
        refine WL.pure (v := .bool false) 100 rfl (Nat.le_of_ble_eq_true rfl) rfl rfl (by kernel_rfl) ?_
        refine WL.pure (v := .bool false) 101 rfl (Nat.le_of_ble_eq_true rfl) rfl rfl (by kernel_rfl) ?_
        refine WL.pure (v := vI (coF (fil c n c) (fil c n A) (fil c n B) (rk c n) 0)) 102 rfl (Nat.le_of_ble_eq_true rfl) rfl rfl (by kernel_rfl) ?_
        refine WL.pure (v := .bool false) 103 rfl (Nat.le_of_ble_eq_true rfl) rfl rfl (x_neq rfl rfl rfl (dF (fun h => h (co_fil0 hck).1))) ?_
        refine WL.pure (v := .bool false) 104 rfl (Nat.le_of_ble_eq_true rfl) rfl rfl (by kernel_rfl) ?_
        refine WL.nil ?_
        refine WQ.then ?_
        refine hK69 _ _ _ ?_
        refine WC.sub (l' := [(0, .slice p n cap), (1, vI op), (4, .bool false), (5, .slice pv n cp), (6, .slice pv2 (rk c n) cp2), (7, vI 0), (8, .slice pv3 (rk c n) cp3), (9, vI 0), (10, vI (coN c A B n op)), (11, vI (coF c A B n op)), (12, vI (coN c A B n op)), (13, vI (coF c A B n op)), (14, vI (coN (fil c n c) (fil c n A) (fil c n B) (rk c n) op)), (15, vI (coF (fil c n c) (fil c n A) (fil c n B) (rk c n) op)), (16, vI (coN (fil c n c) (fil c n A) (fil c n B) (rk c n) 0)), (17, vI (coF (fil c n c) (fil c n A) (fil c n B) (rk c n) 0)), (21, .bool false), (71, .bool false), (73, .bool true), (104, .bool false)]) ⟨rfl, rfl, rfl, rfl, rfl, rfl, rfl, rfl, rfl, rfl, rfl, rfl, rfl, rfl, rfl, rfl, rfl, rfl, rfl, rfl, trivial⟩ ?_
        refine WC.no rfl ?_
        refine WC.skip ?_
        refine WQ.then ?_
        refine hK68 _ _ _ ?_
        refine WC.seq fun K70 hK70 => ?_
        refine WC.seq fun K71 hK71 => ?_
        by_cases h0 : 0 < rk c n
        ·
          obtain ⟨tq, htq⟩ : ∃ g, pv2 = some ⟨g, 0, none⟩ := own_some (HP.get hH67 1 rfl) h0
          subst htq
          obtain ⟨cur, hC, hc1, hc2, hc3, hc4⟩ := HP.ownToCel hH67 1 rfl
          obtain ⟨rr, rfl⟩ := cur_insR hc4
          have hH72 : HP Tr w _ [.own (.slice pv n cp) n (insL c A B n) 23 3, .cel tq (insR (fil c n c) (fil c n A) (fil c n B) (rk c n) rr) 23, .own (.slice pv3 (rk c n) cp3) (rk c n) (insL (fil c n c) (fil c n A) (fil c n B) (rk c n)) 23 3] := hC
          refine WC.region ?_
          refine WL.pure (v := vI 0) 18 rfl (Nat.le_of_ble_eq_true rfl) rfl rfl (by kernel_rfl) ?_
          refine WL.nil ?_
          refine WQ.then ?_
          refine hK71 _ _ _ ?_
          refine WC.block ?_
          refine WC.loop (fun kk0 ll0 ww0 => ∃ (k : Nat) (C : Nat → Int) (D : Nat → Int) (E : Nat → Int), ll0 = [(0, .slice p n cap), (5, .slice pv n cp), (6, vS tq (rk c n) cp2), (18, vI (k : Int))] ∧ kk0 = rk c n - k ∧ (k ≤ rk c n) ∧ HP Tr w ww0 [.own (.slice pv n cp) n (insL c A B n) 23 3, .cel tq (insR C D E (rk c n) rr) 23, .own (.slice pv3 (rk c n) cp3) (rk c n) (insL (fil c n c) (fil c n A) (fil c n B) (rk c n)) 23 3]) (rk c n) [(0, .slice p n cap), (5, .slice pv n cp), (6, vS tq (rk c n) cp2), (18, vI 0)] ⟨rfl, rfl, rfl, rfl, trivial⟩ ⟨0, fil c n c, fil c n A, fil c n B, rfl, rfl, Nat.zero_le _, hH72⟩ ?_
          rintro kk l w74 ⟨k, C, D, E, rfl, hkk, hk, hH75⟩ K73 hK73
          refine WC.seq fun K76 hK76 => ?_
          refine WC.seq fun K77 hK77 => ?_
          refine WC.region ?_
          refine WL.pure (v := vI (k : Int)) 105 rfl (Nat.le_of_ble_eq_true rfl) rfl rfl (by kernel_rfl) ?_
          refine WL.pure (v := vS tq (rk c n) cp2) 106 rfl (Nat.le_of_ble_eq_true rfl) rfl rfl (by kernel_rfl) ?_
          refine WL.pure (v := vI ((rk c n : Nat) : Int)) 107 rfl (Nat.le_of_ble_eq_true rfl) rfl rfl (by kernel_rfl) ?_
          by_cases hlt : (k : Int) < ((rk c n : Nat) : Int)
          ·
            refine WL.pure (v := .bool true) 108 rfl (Nat.le_of_ble_eq_true rfl) rfl rfl (x_lss rfl rfl rfl (dT (hlt))) ?_
            refine WL.nil ?_
            refine WQ.then ?_
            refine hK77 _ _ _ ?_
            refine WC.yes rfl ?_
            refine WC.skip ?_
            refine WQ.then ?_
            refine hK76 _ _ _ ?_
            refine WC.seq fun K78 hK78 => ?_
            refine WC.block ?_
            refine WC.region ?_
            refine WL.pure (v := vS tq (rk c n) cp2) 111 rfl (Nat.le_of_ble_eq_true rfl) rfl rfl (by kernel_rfl) ?_
            refine WL.pure (v := vI (k : Int)) 112 rfl (Nat.le_of_ble_eq_true rfl) rfl rfl (by kernel_rfl) ?_
            refine WL.pure (v := .agg #[vI 35, vI 0, vI 0]) 113 rfl (Nat.le_of_ble_eq_true rfl) rfl rfl (by kernel_rfl) ?_
            refine WL.pure (v := vP tq (k * 3)) 114 rfl (Nat.le_of_ble_eq_true rfl) rfl rfl (x_idx (k) (k * 3) rfl rfl rfl Try.underlying30 sz23 (by omega) (by omega) (by omega)) ?_
            refine WL.storeS (cells := #[vI 35, vI 0, vI 0]) 1 hH75 rfl rfl rfl rfl rfl rfl sz23 rfl (by rw [insR_size]; show k * 3 + 3 ≤ _; omega) (insR_set (by omega) _ _ _) rfl ?_
            intro w79 hH80
            have hH81 : HP Tr w _ [.own (.slice pv n cp) n (insL c A B n) 23 3, .cel tq (insR (Ec.upI C k 35) (Ec.upI D k 0) (Ec.upI E k 0) (rk c n) rr) 23, .own (.slice pv3 (rk c n) cp3) (rk c n) (insL (fil c n c) (fil c n A) (fil c n B) (rk c n)) 23 3] := hH80
            refine WL.nil ?_
            refine WQ.inNormal ?_
            refine WQ.then ?_
            refine hK78 _ _ _ ?_
            refine WC.sub (l' := [(0, .slice p n cap), (5, .slice pv n cp), (6, vS tq (rk c n) cp2), (18, vI (k : Int)), (108, .bool true)]) ⟨rfl, rfl, rfl, rfl, rfl, trivial⟩ ?_
            refine WC.region ?_
            refine WL.pure (v := vI (k : Int)) 109 rfl (Nat.le_of_ble_eq_true rfl) rfl rfl (by kernel_rfl) ?_
            refine WL.pure (v := vI ((k + 1 : Nat) : Int)) 110 rfl (Nat.le_of_ble_eq_true rfl) rfl rfl (x_add (Z := ((k + 1 : Nat) : Int)) rfl rfl rfl (by omega) (by omega) (by omega)) ?_
            refine WL.pure (v := vI ((k + 1 : Nat) : Int)) 18 rfl (Nat.le_of_ble_eq_true rfl) rfl rfl (by kernel_rfl) ?_
            refine WL.nil ?_
            refine WQ.sub (l' := [(0, .slice p n cap), (5, .slice pv n cp), (6, vS tq (rk c n) cp2), (18, vI ((k + 1 : Nat) : Int))]) ⟨rfl, rfl, rfl, rfl, trivial⟩ ?_
            refine WQ.then (hK73 _ _ _ (by omega) ⟨k + 1, Ec.upI C k 35, Ec.upI D k 0, Ec.upI E k 0, rfl, rfl, by omega, hH81⟩)
          ·
            refine WL.pure (v := .bool false) 108 rfl (Nat.le_of_ble_eq_true rfl) rfl rfl (x_lss rfl rfl rfl (dF (hlt))) ?_
            refine WL.nil ?_
            refine WQ.then ?_
            refine hK77 _ _ _ ?_
            refine WC.no rfl ?_
            refine WC.exit ?_
            refine WQ.thenExit ?_
            refine WQ.thenExit ?_
            refine WQ.inExit ?_
            refine WQ.then ?_
            refine hK70 _ _ _ ?_
            refine WC.seq fun K82 hK82 => ?_
            refine WC.region ?_
            refine WL.pure (v := .slice p n cap) 115 rfl (Nat.le_of_ble_eq_true rfl) rfl rfl (by kernel_rfl) ?_
            refine WL.pure (v := .slice pv n cp) 116 rfl (Nat.le_of_ble_eq_true rfl) rfl rfl (by kernel_rfl) ?_
            refine WL.call (f := 18) (args := #[.slice p n cap, .slice pv n cp]) 117 rfl (Nat.le_of_ble_eq_true rfl) rfl rfl (by kernel_rfl) ?_
            refine (Same_any _ _ _ _ _ c A B _ (hR.below (HP.below hH75)).inC (own_rowIn (HP.get hH75 0 rfl)).inC (by omega)).mono ?_
            rintro e w83 ⟨rfl, hb84⟩
            refine ⟨_, rfl, ?_⟩
            have hH85 : HP Tr w _ [.own (.slice pv n cp) n (insL c A B n) 23 3, .cel tq (insR C D E (rk c n) rr) 23, .own (.slice pv3 (rk c n) cp3) (rk c n) (insL (fil c n c) (fil c n A) (fil c n B) (rk c n)) 23 3] := HP.call hH75 hb84
            refine WL.pure (v := .bool false) 118 rfl (Nat.le_of_ble_eq_true rfl) rfl rfl (by kernel_rfl) ?_
            refine WL.nil ?_
            refine WQ.then ?_
            refine hK82 _ _ _ ?_
            refine WC.sub (l' := [(0, .slice p n cap), (5, .slice pv n cp), (6, vS tq (rk c n) cp2), (18, vI (k : Int)), (108, .bool false), (118, .bool false)]) ⟨rfl, rfl, rfl, rfl, rfl, rfl, trivial⟩ ?_
            refine WC.no rfl ?_
            refine WC.skip ?_
            refine WQ.then ?_
            refine hK58 _ _ _ ?_
            refine WC.seq fun K86 hK86 => ?_
            refine WC.region ?_
            refine WL.call (f := 14) (args := #[]) 119 rfl (Nat.le_of_ble_eq_true rfl) rfl rfl (by kernel_rfl) ?_
            refine (sane_any _).mono ?_
            rintro e w87 ⟨rfl, hb88⟩
            refine ⟨_, rfl, ?_⟩
            have hH89 : HP Tr w _ [.own (.slice pv n cp) n (insL c A B n) 23 3, .cel tq (insR C D E (rk c n) rr) 23, .own (.slice pv3 (rk c n) cp3) (rk c n) (insL (fil c n c) (fil c n A) (fil c n B) (rk c n)) 23 3] := HP.call hH85 hb88
            refine WL.pure (v := .bool true) 4 rfl (Nat.le_of_ble_eq_true rfl) rfl rfl (by kernel_rfl) ?_
            refine WL.nil ?_
            refine WQ.then ?_
            refine hK86 _ _ _ ?_
            refine WC.ret ?_
            refine WQ.ret1 4 rfl rfl ?_
            exact ⟨rfl, HP.below hH89⟩
        ·
          refine WC.region ?_
          refine WL.pure (v := vI 0) 18 rfl (Nat.le_of_ble_eq_true rfl) rfl rfl (by kernel_rfl) ?_
          refine WL.nil ?_
          refine WQ.then ?_
          refine hK71 _ _ _ ?_
          refine WC.block ?_
          refine WC.loop (fun kk0 ll0 ww0 => ∃ (k : Nat), ll0 = [(0, .slice p n cap), (5, .slice pv n cp), (6, .slice pv2 (rk c n) cp2), (18, vI (k : Int))] ∧ kk0 = rk c n - k ∧ (k ≤ rk c n) ∧ HP Tr w ww0 [.own (.slice pv n cp) n (insL c A B n) 23 3, .own (.slice pv2 (rk c n) cp2) (rk c n) (insL (fil c n c) (fil c n A) (fil c n B) (rk c n)) 23 3, .own (.slice pv3 (rk c n) cp3) (rk c n) (insL (fil c n c) (fil c n A) (fil c n B) (rk c n)) 23 3]) (rk c n) [(0, .slice p n cap), (5, .slice pv n cp), (6, .slice pv2 (rk c n) cp2), (18, vI 0)] ⟨rfl, rfl, rfl, rfl, trivial⟩ ⟨0, rfl, rfl, Nat.zero_le _, hH67⟩ ?_
          rintro kk l w91 ⟨k, rfl, hkk, hk, hH92⟩ K90 hK90
          refine WC.seq fun K93 hK93 => ?_
          refine WC.seq fun K94 hK94 => ?_
          refine WC.region ?_
          refine WL.pure (v := vI (k : Int)) 105 rfl (Nat.le_of_ble_eq_true rfl) rfl rfl (by kernel_rfl) ?_
          refine WL.pure (v := .slice pv2 (rk c n) cp2) 106 rfl (Nat.le_of_ble_eq_true rfl) rfl rfl (by kernel_rfl) ?_
          refine WL.pure (v := vI ((rk c n : Nat) : Int)) 107 rfl (Nat.le_of_ble_eq_true rfl) rfl rfl (by kernel_rfl) ?_
          refine WL.pure (v := .bool false) 108 rfl (Nat.le_of_ble_eq_true rfl) rfl rfl (x_lss rfl rfl rfl (dF (by omega))) ?_
          refine WL.nil ?_
          refine WQ.then ?_
          refine hK94 _ _ _ ?_
          refine WC.no rfl ?_
          refine WC.exit ?_
          refine WQ.thenExit ?_
          refine WQ.thenExit ?_
          refine WQ.inExit ?_
          refine WQ.then ?_
          refine hK70 _ _ _ ?_
          refine WC.seq fun K95 hK95 => ?_
          refine WC.region ?_
          refine WL.pure (v := .slice p n cap) 115 rfl (Nat.le_of_ble_eq_true rfl) rfl rfl (by kernel_rfl) ?_
          refine WL.pure (v := .slice pv n cp) 116 rfl (Nat.le_of_ble_eq_true rfl) rfl rfl (by kernel_rfl) ?_
          refine WL.call (f := 18) (args := #[.slice p n cap, .slice pv n cp]) 117 rfl (Nat.le_of_ble_eq_true rfl) rfl rfl (by kernel_rfl) ?_
          refine (Same_any _ _ _ _ _ c A B _ (hR.below (HP.below hH92)).inC (own_rowIn (HP.get hH92 0 rfl)).inC (by omega)).mono ?_
          rintro e w96 ⟨rfl, hb97⟩
          refine ⟨_, rfl, ?_⟩
          have hH98 : HP Tr w _ [.own (.slice pv n cp) n (insL c A B n) 23 3, .own (.slice pv2 (rk c n) cp2) (rk c n) (insL (fil c n c) (fil c n A) (fil c n B) (rk c n)) 23 3, .own (.slice pv3 (rk c n) cp3) (rk c n) (insL (fil c n c) (fil c n A) (fil c n B) (rk c n)) 23 3] := HP.call hH92 hb97
          refine WL.pure (v := .bool false) 118 rfl (Nat.le_of_ble_eq_true rfl) rfl rfl (by kernel_rfl) ?_
          refine WL.nil ?_
          refine WQ.then ?_
          refine hK95 _ _ _ ?_
          refine WC.sub (l' := [(0, .slice p n cap), (5, .slice pv n cp), (6, .slice pv2 (rk c n) cp2), (18, vI (k : Int)), (108, .bool false), (118, .bool false)]) ⟨rfl, rfl, rfl, rfl, rfl, rfl, trivial⟩ ?_
          refine WC.no rfl ?_
          refine WC.skip ?_
          refine WQ.then ?_
          refine hK58 _ _ _ ?_
          refine WC.seq fun K99 hK99 => ?_
          refine WC.region ?_
          refine WL.call (f := 14) (args := #[]) 119 rfl (Nat.le_of_ble_eq_true rfl) rfl rfl (by kernel_rfl) ?_
          refine (sane_any _).mono ?_
          rintro e w100 ⟨rfl, hb101⟩
          refine ⟨_, rfl, ?_⟩
          have hH102 : HP Tr w _ [.own (.slice pv n cp) n (insL c A B n) 23 3, .own (.slice pv2 (rk c n) cp2) (rk c n) (insL (fil c n c) (fil c n A) (fil c n B) (rk c n)) 23 3, .own (.slice pv3 (rk c n) cp3) (rk c n) (insL (fil c n c) (fil c n A) (fil c n B) (rk c n)) 23 3] := HP.call hH98 hb101
          refine WL.pure (v := .bool true) 4 rfl (Nat.le_of_ble_eq_true rfl) rfl rfl (by kernel_rfl) ?_
          refine WL.nil ?_
          refine WQ.then ?_
          refine hK99 _ _ _ ?_
          refine WC.ret ?_
          refine WQ.ret1 4 rfl rfl ?_
          exact ⟨rfl, HP.below hH102⟩
      ·
        refine WL.pure (v := .bool false) 86 rfl (Nat.le_of_ble_eq_true rfl) rfl rfl (x_neq rfl rfl rfl (dF (ho))) ?_
        refine WL.pure (v := .bool false) 87 rfl (Nat.le_of_ble_eq_true rfl) rfl rfl (by kernel_rfl) ?_
        refine WL.pass 88 rfl (Nat.le_of_ble_eq_true rfl) rfl ?_
        refine WL.pass 89 rfl (Nat.le_of_ble_eq_true rfl) rfl ?_
        refine WL.pass 90 rfl (Nat.le_of_ble_eq_true rfl) rfl ?_
        refine WL.pass 91 rfl (Nat.le_of_ble_eq_true rfl) rfl ?_
        refine WL.pass 92 rfl (Nat.le_of_ble_eq_true rfl) rfl ?_
        refine WL.pass 93 rfl (Nat.le_of_ble_eq_true rfl) rfl ?_
        refine WL.pass 94 rfl (Nat.le_of_ble_eq_true rfl) rfl ?_
        refine WL.pass 95 rfl (Nat.le_of_ble_eq_true rfl) rfl ?_
        refine WL.pure (v := .bool false) 96 rfl (Nat.le_of_ble_eq_true rfl) rfl rfl (by kernel_rfl) ?_
        refine WL.pure (v := .bool false) 97 rfl (Nat.le_of_ble_eq_true rfl) rfl rfl (by kernel_rfl) ?_
        refine WL.pure (v := vI (coN (fil c n c) (fil c n A) (fil c n B) (rk c n) 0)) 98 rfl (Nat.le_of_ble_eq_true rfl) rfl rfl (by kernel_rfl) ?_
        refine WL.pure (v := .bool false) 99 rfl (Nat.le_of_ble_eq_true rfl) rfl rfl (x_neq rfl rfl rfl (dF (fun h => h (co_fil0 hck).2))) ?_
        refine WL.pure (v := .bool false) 100 rfl (Nat.le_of_ble_eq_true rfl) rfl rfl (by kernel_rfl) ?_
        refine WL.pure (v := .bool false) 101 rfl (Nat.le_of_ble_eq_true rfl) rfl rfl (by kernel_rfl) ?_
        refine WL.pure (v := vI (coF (fil c n c) (fil c n A) (fil c n B) (rk c n) 0)) 102 rfl (Nat.le_of_ble_eq_true rfl) rfl rfl (by kernel_rfl) ?_
        refine WL.pure (v := .bool false) 103 rfl (Nat.le_of_ble_eq_true rfl) rfl rfl (x_neq rfl rfl rfl (dF (fun h => h (co_fil0 hck).1))) ?_
        refine WL.pure (v := .bool false) 104 rfl (Nat.le_of_ble_eq_true rfl) rfl rfl (by kernel_rfl) ?_
        refine WL.nil ?_
        refine WQ.then ?_
        refine hK69 _ _ _ ?_
        refine WC.sub (l' := [(0, .slice p n cap), (1, vI op), (4, .bool false), (5, .slice pv n cp), (6, .slice pv2 (rk c n) cp2), (7, vI 0), (8, .slice pv3 (rk c n) cp3), (9, vI 0), (10, vI (coN c A B n op)), (11, vI (coF c A B n op)), (12, vI (coN c A B n op)), (13, vI (coF c A B n op)), (14, vI (coN (fil c n c) (fil c n A) (fil c n B) (rk c n) op)), (15, vI (coF (fil c n c) (fil c n A) (fil c n B) (rk c n) op)), (16, vI (coN (fil c n c) (fil c n A) (fil c n B) (rk c n) 0)), (17, vI (coF (fil c n c) (fil c n A) (fil c n B) (rk c n) 0)), (21, .bool false), (71, .bool false), (73, .bool true), (104, .bool false)]) ⟨rfl, rfl, rfl, rfl, rfl, rfl, rfl, rfl, rfl, rfl, rfl, rfl, rfl, rfl, rfl, rfl, rfl, rfl, rfl, rfl, trivial⟩ ?_
        refine WC.no rfl ?_
        refine WC.skip ?_
        refine WQ.then ?_
        refine hK68 _ _ _ ?_
        refine WC.seq fun K103 hK103 => ?_
        refine WC.seq fun K104 hK104 => ?_
        by_cases h0 : 0 < rk c n
        ·
          obtain ⟨tq, htq⟩ : ∃ g, pv2 = some ⟨g, 0, none⟩ := own_some (HP.get hH67 1 rfl) h0
          subst htq
          obtain ⟨cur, hC, hc1, hc2, hc3, hc4⟩ := HP.ownToCel hH67 1 rfl
          obtain ⟨rr, rfl⟩ := cur_insR hc4
          have hH105 : HP Tr w _ [.own (.slice pv n cp) n (insL c A B n) 23 3, .cel tq (insR (fil c n c) (fil c n A) (fil c n B) (rk c n) rr) 23, .own (.slice pv3 (rk c n) cp3) (rk c n) (insL (fil c n c) (fil c n A) (fil c n B) (rk c n)) 23 3] := hC
          refine WC.region ?_
          refine WL.pure (v := vI 0) 18 rfl (Nat.le_of_ble_eq_true rfl) rfl rfl (by kernel_rfl) ?_
          refine WL.nil ?_
          refine WQ.then ?_
          refine hK104 _ _ _ ?_
          refine WC.block ?_
          refine WC.loop (fun kk0 ll0 ww0 => ∃ (k : Nat) (C : Nat → Int) (D : Nat → Int) (E : Nat → Int), ll0 = [(0, .slice p n cap), (5, .slice pv n cp), (6, vS tq (rk c n) cp2), (18, vI (k : Int))] ∧ kk0 = rk c n - k ∧ (k ≤ rk c n) ∧ HP Tr w ww0 [.own (.slice pv n cp) n (insL c A B n) 23 3, .cel tq (insR C D E (rk c n) rr) 23, .own (.slice pv3 (rk c n) cp3) (rk c n) (insL (fil c n c) (fil c n A) (fil c n B) (rk c n)) 23 3]) (rk c n) [(0, .slice p n cap), (5, .slice pv n cp), (6, vS tq (rk c n) cp2), (18, vI 0)] ⟨rfl, rfl, rfl, rfl, trivial⟩ ⟨0, fil c n c, fil c n A, fil c n B, rfl, rfl, Nat.zero_le _, hH105⟩ ?_
          rintro kk l w107 ⟨k, C, D, E, rfl, hkk, hk, hH108⟩ K106 hK106
          refine WC.seq fun K109 hK109 => ?_
          refine WC.seq fun K110 hK110 => ?_
          refine WC.region ?_
          refine WL.pure (v := vI (k : Int)) 105 rfl (Nat.le_of_ble_eq_true rfl) rfl rfl (by kernel_rfl) ?_
          refine WL.pure (v := vS tq (rk c n) cp2) 106 rfl (Nat.le_of_ble_eq_true rfl) rfl rfl (by kernel_rfl) ?_
          refine WL.pure (v := vI ((rk c n : Nat) : Int)) 107 rfl (Nat.le_of_ble_eq_true rfl) rfl rfl (by kernel_rfl) ?_
          by_cases hlt : (k : Int) < ((rk c n : Nat) : Int)
          ·
            refine WL.pure (v := .bool true) 108 rfl (Nat.le_of_ble_eq_true rfl) rfl rfl (x_lss rfl rfl rfl (dT (hlt))) ?_
            refine WL.nil ?_
            refine WQ.then ?_
            refine hK110 _ _ _ ?_
            refine WC.yes rfl ?_
            refine WC.skip ?_
            refine WQ.then ?_
            refine hK109 _ _ _ ?_
            refine WC.seq fun K111 hK111 => ?_
            refine WC.block ?_
            refine WC.region ?_
            refine WL.pure (v := vS tq (rk c n) cp2) 111 rfl (Nat.le_of_ble_eq_true rfl) rfl rfl (by kernel_rfl) ?_
            refine WL.pure (v := vI (k : Int)) 112 rfl (Nat.le_of_ble_eq_true rfl) rfl rfl (by kernel_rfl) ?_
            refine WL.pure (v := .agg #[vI 35, vI 0, vI 0]) 113 rfl (Nat.le_of_ble_eq_true rfl) rfl rfl (by kernel_rfl) ?_
            refine WL.pure (v := vP tq (k * 3)) 114 rfl (Nat.le_of_ble_eq_true rfl) rfl rfl (x_idx (k) (k * 3) rfl rfl rfl Try.underlying30 sz23 (by omega) (by omega) (by omega)) ?_
            refine WL.storeS (cells := #[vI 35, vI 0, vI 0]) 1 hH108 rfl rfl rfl rfl rfl rfl sz23 rfl (by rw [insR_size]; show k * 3 + 3 ≤ _; omega) (insR_set (by omega) _ _ _) rfl ?_
            intro w112 hH113
            have hH114 : HP Tr w _ [.own (.slice pv n cp) n (insL c A B n) 23 3, .cel tq (insR (Ec.upI C k 35) (Ec.upI D k 0) (Ec.upI E k 0) (rk c n) rr) 23, .own (.slice pv3 (rk c n) cp3) (rk c n) (insL (fil c n c) (fil c n A) (fil c n B) (rk c n)) 23 3] := hH113
            refine WL.nil ?_
            refine WQ.inNormal ?_
            refine WQ.then ?_
            refine hK111 _ _ _ ?_
            refine WC.sub (l' := [(0, .slice p n cap), (5, .slice pv n cp), (6, vS tq (rk c n) cp2), (18, vI (k : Int)), (108, .bool true)]) ⟨rfl, rfl, rfl, rfl, rfl, trivial⟩ ?_
            refine WC.region ?_
            refine WL.pure (v := vI (k : Int)) 109 rfl (Nat.le_of_ble_eq_true rfl) rfl rfl (by kernel_rfl) ?_
            refine WL.pure (v := vI ((k + 1 : Nat) : Int)) 110 rfl (Nat.le_of_ble_eq_true rfl) rfl rfl (x_add (Z := ((k + 1 : Nat) : Int)) rfl rfl rfl (by omega) (by omega) (by omega)) ?_
            refine WL.pure (v := vI ((k + 1 : Nat) : Int)) 18 rfl (Nat.le_of_ble_eq_true rfl) rfl rfl (by kernel_rfl) ?_
            refine WL.nil ?_
            refine WQ.sub (l' := [(0, .slice p n cap), (5, .slice pv n cp), (6, vS tq (rk c n) cp2), (18, vI ((k + 1 : Nat) : Int))]) ⟨rfl, rfl, rfl, rfl, trivial⟩ ?_
            refine WQ.then (hK106 _ _ _ (by omega) ⟨k + 1, Ec.upI C k 35, Ec.upI D k 0, Ec.upI E k 0, rfl, rfl, by omega, hH114⟩)
          ·
            refine WL.pure (v := .bool false) 108 rfl (Nat.le_of_ble_eq_true rfl) rfl rfl (x_lss rfl rfl rfl (dF (hlt))) ?_
            refine WL.nil ?_
            refine WQ.then ?_
            refine hK110 _ _ _ ?_
            refine WC.no rfl ?_
            refine WC.exit ?_
            refine WQ.thenExit ?_
            refine WQ.thenExit ?_
            refine WQ.inExit ?_
            refine WQ.then ?_
            refine hK103 _ _ _ ?_
            refine WC.seq fun K115 hK115 => ?_
            refine WC.region ?_
            refine WL.pure (v := .slice p n cap) 115 rfl (Nat.le_of_ble_eq_true rfl) rfl rfl (by kernel_rfl) ?_
            refine WL.pure (v := .slice pv n cp) 116 rfl (Nat.le_of_ble_eq_true rfl) rfl rfl (by kernel_rfl) ?_
            refine WL.call (f := 18) (args := #[.slice p n cap, .slice pv n cp]) 117 rfl (Nat.le_of_ble_eq_true rfl) rfl rfl (by kernel_rfl) ?_
            refine (Same_any _ _ _ _ _ c A B _ (hR.below (HP.below hH108)).inC (own_rowIn (HP.get hH108 0 rfl)).inC (by omega)).mono ?_
            rintro e w116 ⟨rfl, hb117⟩
            refine ⟨_, rfl, ?_⟩
            have hH118 : HP Tr w _ [.own (.slice pv n cp) n (insL c A B n) 23 3, .cel tq (insR C D E (rk c n) rr) 23, .own (.slice pv3 (rk c n) cp3) (rk c n) (insL (fil c n c) (fil c n A) (fil c n B) (rk c n)) 23 3] := HP.call hH108 hb117
            refine WL.pure (v := .bool false) 118 rfl (Nat.le_of_ble_eq_true rfl) rfl rfl (by kernel_rfl) ?_
            refine WL.nil ?_
            refine WQ.then ?_
            refine hK115 _ _ _ ?_
            refine WC.sub (l' := [(0, .slice p n cap), (5, .slice pv n cp), (6, vS tq (rk c n) cp2), (18, vI (k : Int)), (108, .bool false), (118, .bool false)]) ⟨rfl, rfl, rfl, rfl, rfl, rfl, trivial⟩ ?_
            refine WC.no rfl ?_
            refine WC.skip ?_
            refine WQ.then ?_
            refine hK58 _ _ _ ?_
            refine WC.seq fun K119 hK119 => ?_
            refine WC.region ?_
            refine WL.call (f := 14) (args := #[]) 119 rfl (Nat.le_of_ble_eq_true rfl) rfl rfl (by kernel_rfl) ?_
            refine (sane_any _).mono ?_
            rintro e w120 ⟨rfl, hb121⟩
            refine ⟨_, rfl, ?_⟩
            have hH122 : HP Tr w _ [.own (.slice pv n cp) n (insL c A B n) 23 3, .cel tq (insR C D E (rk c n) rr) 23, .own (.slice pv3 (rk c n) cp3) (rk c n) (insL (fil c n c) (fil c n A) (fil c n B) (rk c n)) 23 3] := HP.call hH118 hb121
            refine WL.pure (v := .bool true) 4 rfl (Nat.le_of_ble_eq_true rfl) rfl rfl (by kernel_rfl) ?_
            refine WL.nil ?_
            refine WQ.then ?_
            refine hK119 _ _ _ ?_
            refine WC.ret ?_
            refine WQ.ret1 4 rfl rfl ?_
            exact ⟨rfl, HP.below hH122⟩
        ·
          refine WC.region ?_
          refine WL.pure (v := vI 0) 18 rfl (Nat.le_of_ble_eq_true rfl) rfl rfl (by kernel_rfl) ?_
          refine WL.nil ?_
          refine WQ.then ?_
          refine hK104 _ _ _ ?_
          refine WC.block ?_
          refine WC.loop (fun kk0 ll0 ww0 => ∃ (k : Nat), ll0 = [(0, .slice p n cap), (5, .slice pv n cp), (6, .slice pv2 (rk c n) cp2), (18, vI (k : Int))] ∧ kk0 = rk c n - k ∧ (k ≤ rk c n) ∧ HP Tr w ww0 [.own (.slice pv n cp) n (insL c A B n) 23 3, .own (.slice pv2 (rk c n) cp2) (rk c n) (insL (fil c n c) (fil c n A) (fil c n B) (rk c n)) 23 3, .own (.slice pv3 (rk c n) cp3) (rk c n) (insL (fil c n c) (fil c n A) (fil c n B) (rk c n)) 23 3]) (rk c n) [(0, .slice p n cap), (5, .slice pv n cp), (6, .slice pv2 (rk c n) cp2), (18, vI 0)] ⟨rfl, rfl, rfl, rfl, trivial⟩ ⟨0, rfl, rfl, Nat.zero_le _, hH67⟩ ?_
          rintro kk l w124 ⟨k, rfl, hkk, hk, hH125⟩ K123 hK123
          refine WC.seq fun K126 hK126 => ?_
          refine WC.seq fun K127 hK127 => ?_
          refine WC.region ?_
          refine WL.pure (v := vI (k : Int)) 105 rfl (Nat.le_of_ble_eq_true rfl) rfl rfl (by kernel_rfl) ?_
          refine WL.pure (v := .slice pv2 (rk c n) cp2) 106 rfl (Nat.le_of_ble_eq_true rfl) rfl rfl (by kernel_rfl) ?_
          refine WL.pure (v := vI ((rk c n : Nat) : Int)) 107 rfl (Nat.le_of_ble_eq_true rfl) rfl rfl (by kernel_rfl) ?_
          refine WL.pure (v := .bool false) 108 rfl (Nat.le_of_ble_eq_true rfl) rfl rfl (x_lss rfl rfl rfl (dF (by omega))) ?_
          refine WL.nil ?_
          refine WQ.then ?_
          refine hK127 _ _ _ ?_
          refine WC.no rfl ?_
          refine WC.exit ?_
          refine WQ.thenExit ?_
          refine WQ.thenExit ?_
          refine WQ.inExit ?_
          refine WQ.then ?_
          refine hK103 _ _ _ ?_
          refine WC.seq fun K128 hK128 => ?_
          refine WC.region ?_
          refine WL.pure (v := .slice p n cap) 115 rfl (Nat.le_of_ble_eq_true rfl) rfl rfl (by kernel_rfl) ?_
          refine WL.pure (v := .slice pv n cp) 116 rfl (Nat.le_of_ble_eq_true rfl) rfl rfl (by kernel_rfl) ?_
          refine WL.call (f := 18) (args := #[.slice p n cap, .slice pv n cp]) 117 rfl (Nat.le_of_ble_eq_true rfl) rfl rfl (by kernel_rfl) ?_
          refine (Same_any _ _ _ _ _ c A B _ (hR.below (HP.below hH125)).inC (own_rowIn (HP.get hH125 0 rfl)).inC (by omega)).mono ?_
          rintro e w129 ⟨rfl, hb130⟩
          refine ⟨_, rfl, ?_⟩
          have hH131 : HP Tr w _ [.own (.slice pv n cp) n (insL c A B n) 23 3, .own (.slice pv2 (rk c n) cp2) (rk c n) (insL (fil c n c) (fil c n A) (fil c n B) (rk c n)) 23 3, .own (.slice pv3 (rk c n) cp3) (rk c n) (insL (fil c n c) (fil c n A) (fil c n B) (rk c n)) 23 3] := HP.call hH125 hb130
          refine WL.pure (v := .bool false) 118 rfl (Nat.le_of_ble_eq_true rfl) rfl rfl (by kernel_rfl) ?_
          refine WL.nil ?_
          refine WQ.then ?_
          refine hK128 _ _ _ ?_
          refine WC.sub (l' := [(0, .slice p n cap), (5, .slice pv n cp), (6, .slice pv2 (rk c n) cp2), (18, vI (k : Int)), (108, .bool false), (118, .bool false)]) ⟨rfl, rfl, rfl, rfl, rfl, rfl, trivial⟩ ?_
          refine WC.no rfl ?_
          refine WC.skip ?_
          refine WQ.then ?_
          refine hK58 _ _ _ ?_
          refine WC.seq fun K132 hK132 => ?_
          refine WC.region ?_
          refine WL.call (f := 14) (args := #[]) 119 rfl (Nat.le_of_ble_eq_true rfl) rfl rfl (by kernel_rfl) ?_
          refine (sane_any _).mono ?_
          rintro e w133 ⟨rfl, hb134⟩
          refine ⟨_, rfl, ?_⟩
          have hH135 : HP Tr w _ [.own (.slice pv n cp) n (insL c A B n) 23 3, .own (.slice pv2 (rk c n) cp2) (rk c n) (insL (fil c n c) (fil c n A) (fil c n B) (rk c n)) 23 3, .own (.slice pv3 (rk c n) cp3) (rk c n) (insL (fil c n c) (fil c n A) (fil c n B) (rk c n)) 23 3] := HP.call hH131 hb134
          refine WL.pure (v := .bool true) 4 rfl (Nat.le_of_ble_eq_true rfl) rfl rfl (by kernel_rfl) ?_
          refine WL.nil ?_
          refine WQ.then ?_
          refine hK132 _ _ _ ?_
          refine WC.ret ?_
          refine WQ.ret1 4 rfl rfl ?_
          exact ⟨rfl, HP.below hH135⟩

theorem own : ownKnob Try.prog.godebug = none := by kernel_rfl
theorem laidOut : laidOutB Try.prog = true := by kernel_rfl

set_option maxRecDepth 100000 in
theorem lifted (os : Os) (started : os.Started) (H : Type) (enc : TypeId × Value → H) :
    ReturnsInHanded {} Try.checked os 9 .any (Rows.codeTrimsSpec.pre6 enc Try.prog Try.f9 Rows.codeTrimsRow.domain false) (Rows.codeTrimsSpec.post enc Try.prog Try.f9 false true false false) := by
  refine returnsInHanded_of_change (C := Try.checked) own started (by kernel_rfl) Try.func9
    (ChangeSpec.witness6 (enc := enc) (C := Try.checked) false ⟨#[], #[.slice none 0 0, .int .i64 0], []⟩ 8 (by kernel_rfl) (by kernel_rfl) (by kernel_rfl) (by kernel_rfl)) ?_
  intro W base args ds gs before hval0 hW hcnd _
  have hval : ∀ (j : Nat) t v, Try.f9.params[j]? = some t → args[j]? = some v → Value.okWide Try.prog W .any base t v := hval0
  have hW' := hW
  obtain ⟨p, q, hA0, hV, rfl, hfz, hnd⟩ := hW
  have hA : DataW.TrodAll enc Try.prog W 0 (fun _ => true) true Try.f9.params.toList args.toList ds p := hA0
  rw [Try.params9] at hA hval
  obtain ⟨v0, vs0, d0, ds0, p0, q0, hargs, rfl, rfl, h0, r0⟩ := trodAll_cons hA
  obtain ⟨v1, vs1, d1, ds1, p1, q1, rfl, rfl, rfl, h1, r1⟩ := trodAll_cons r0
  obtain ⟨rfl, rfl, rfl⟩ := trodAll_nil r1
  obtain rfl : args = #[v0, v1] := by cases args; simp_all
  obtain ⟨rfl, rfl⟩ := trodVars_none hV
  have k0 := h0
  have lt0 : ∀ x ∈ p0, x.block < W.heap.size := by obtain ⟨m, hm⟩ := k0; exact DataW.trod_lt m _ _ _ hm
  obtain ⟨b0, n0, cap0, rfl⟩ := okWide_slice Try.underlying30 (hval 0 30 v0 rfl rfl)
  obtain ⟨c0, A0, B0, hrow0⟩ := rows3 h0 lt0
  obtain ⟨a1, rfl, rfl, rfl, w1⟩ := open_int Try.underlying3 (hval 1 3 v1 rfl rfl) h1
  clear hA0 hval0
  refine (walk b0 n0 cap0 c0 A0 B0 a1 W hrow0 w1).mono fun e W' ⟨he, bel⟩ => ?_
  subst he
  exact ⟨_, rfl, _, _, _, [], _, [], hW', trodAll_mk1 (shut_bool Try.underlying4 _), (trodAll_cons_mk (Below.trod laidOut (by kernel_rfl) (of_decide_eq_true (by kernel_rfl)) k0 bel lt0) (trodAll_cons_mk (shut_int Try.underlying3 w1) trodAll_mk0)), rfl, bel.frame _, fun h => by cases h⟩

theorem over : Rows.codeTrimsRow.holds Try.pinned (OpenSpec.ofChange Rows.codeTrimsSpec) :=
  OpenClaim.holds_of_wide 9 Try.f9 rfl rfl rfl rfl rfl rfl rfl ⟨rfl, rfl, rfl, rfl, rfl⟩ rfl rfl rfl rfl rfl (by kernel_rfl) Try.func9 (by kernel_rfl)
    (of_decide_eq_true (by kernel_rfl)) (by unfold Func.isWrapper; first | (rw [if_pos (by decide +kernel)]; kernel_rfl) | (rw [if_neg (by decide +kernel)]; exact ⟨rfl, rfl⟩))
    (fun os started H enc _ => lifted os started H enc)

/-- the statement -/
theorem proved : Rows.CodeTrimsSaid := over
end Go.Proofs.Yteeljnlepbnhkaa.codeTrims
