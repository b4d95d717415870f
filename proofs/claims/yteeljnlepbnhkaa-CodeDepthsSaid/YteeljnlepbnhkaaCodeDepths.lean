/-
  The statement CodeDepths: for every list of instructions the law returns true.
  Conditions: none beyond those of the given row.
-/
import Derived.Test.YteeljnlepbnhkaaRows
import Derived.Test.YteeljnlepbnhkaaEO
import Derived.Test.YteeljnlepbnhkaaEV
import Derived.ProofKit
import Derived.OpenShut
import Derived.ShutString
import Derived.ChangeOld
import Derived.Lib.SmallJoins
set_option linter.unusedVariables false
set_option linter.unusedSimpArgs false
namespace Go.Proofs.Yteeljnlepbnhkaa.codeDepths
open Go.ChangeShapes Go.WideShapes Go.ChangeAt Go.RowKit Go.Joins
open Go.ChangeMaps (open_string shut_string)
open Ec Fw

set_option maxRecDepth 20000 in
set_option maxHeartbeats 4000000 in
theorem walk (p : Option Addr) (n cap : Nat) (c A B : Nat → Int) (w : World) (hR : RowIn w p n cap c A B) :
    Calls Try.prog 6 #[.slice p n cap] w fun e w' => e = .returned (.bool true) ∧ Below w.heap.size w w' := by
  refine calls_of Try.func6 rfl (m := 129) rfl [(0, .slice p n cap)] (Fr_enter [.slice p n cap] 129 (Nat.le_of_ble_eq_true rfl)) ?_
  have hH1 : HP Tr w w [] := HP.refl w
  refine WC.seq fun K2 hK2 => ?_
  refine WC.region ?_
  refine WL.pure (v := .bool false) 2 rfl (Nat.le_of_ble_eq_true rfl) rfl rfl (by kernel_rfl) ?_
  refine WL.nil ?_
  refine WQ.then ?_
  refine hK2 _ _ _ ?_
  refine WC.seq fun K3 hK3 => ?_
  refine WC.seq fun K4 hK4 => ?_
  refine WC.region ?_
  refine WL.pure (v := .slice p n cap) 12 rfl (Nat.le_of_ble_eq_true rfl) rfl rfl (by kernel_rfl) ?_
  refine WL.pure (v := vI (n : Int)) 13 rfl (Nat.le_of_ble_eq_true rfl) rfl rfl (by kernel_rfl) ?_
  by_cases hl : (400 : Int) < (n : Int)
  ·
    refine WL.pure (v := .bool true) 14 rfl (Nat.le_of_ble_eq_true rfl) rfl rfl (x_gtr rfl rfl rfl (dT (hl))) ?_
    refine WL.nil ?_
    refine WQ.then ?_
    refine hK4 _ _ _ ?_
    refine WC.yes rfl ?_
    refine WC.seq fun K5 hK5 => ?_
    refine WC.region ?_
    refine WL.call (f := 14) (args := #[]) 15 rfl (Nat.le_of_ble_eq_true rfl) rfl rfl (by kernel_rfl) ?_
    refine (sane_any _).mono ?_
    rintro e w6 ⟨rfl, hb7⟩
    refine ⟨_, rfl, ?_⟩
    have hH8 : HP Tr w _ [] := HP.call hH1 hb7
    refine WL.pure (v := .bool true) 2 rfl (Nat.le_of_ble_eq_true rfl) rfl rfl (by kernel_rfl) ?_
    refine WL.nil ?_
    refine WQ.then ?_
    refine hK5 _ _ _ ?_
    refine WC.ret ?_
    refine WQ.thenRet ?_
    refine WQ.ret1 2 rfl rfl ?_
    exact ⟨rfl, HP.below hH8⟩
  ·
    refine WL.pure (v := .bool false) 14 rfl (Nat.le_of_ble_eq_true rfl) rfl rfl (x_gtr rfl rfl rfl (dF (hl))) ?_
    refine WL.nil ?_
    refine WQ.then ?_
    refine hK4 _ _ _ ?_
    refine WC.no rfl ?_
    refine WC.skip ?_
    refine WQ.then ?_
    refine hK3 _ _ _ ?_
    refine WC.seq fun K9 hK9 => ?_
    refine WC.region ?_
    refine WL.pure (v := .slice p n cap) 17 rfl (Nat.le_of_ble_eq_true rfl) rfl rfl (by kernel_rfl) ?_
    refine WL.call (f := 23) (args := #[.slice p n cap]) 18 rfl (Nat.le_of_ble_eq_true rfl) rfl rfl (by kernel_rfl) ?_
    refine (Depth_any _ _ _ c A B _ (hR.inC.below (HP.below hH1)) (by omega)).mono ?_
    rintro e w10 ⟨rfl, hb11⟩
    refine ⟨_, rfl, ?_⟩
    have hH12 : HP Tr w _ [] := HP.call hH1 hb11
    refine WL.pure (v := .tuple #[vI (dpD c A B n), vI (chk c A B false n)]) 16 rfl (Nat.le_of_ble_eq_true rfl) rfl rfl (by kernel_rfl) ?_
    refine WL.pure (v := vI (dpD c A B n)) 19 rfl (Nat.le_of_ble_eq_true rfl) rfl rfl (by kernel_rfl) ?_
    refine WL.pure (v := vI (chk c A B false n)) 20 rfl (Nat.le_of_ble_eq_true rfl) rfl rfl (by kernel_rfl) ?_
    refine WL.pure (v := vI (dpD c A B n)) 3 rfl (Nat.le_of_ble_eq_true rfl) rfl rfl (by kernel_rfl) ?_
    refine WL.pure (v := vI (chk c A B false n)) 4 rfl (Nat.le_of_ble_eq_true rfl) rfl rfl (by kernel_rfl) ?_
    refine WL.nil ?_
    refine WQ.then ?_
    refine hK9 _ _ _ ?_
    refine WC.sub (l' := [(0, .slice p n cap), (2, .bool false), (3, vI (dpD c A B n)), (4, vI (chk c A B false n)), (14, .bool false)]) ⟨rfl, rfl, rfl, rfl, rfl, trivial⟩ ?_
    refine WC.seq fun K13 hK13 => ?_
    refine WC.region ?_
    refine WL.pure (v := .slice p n cap) 22 rfl (Nat.le_of_ble_eq_true rfl) rfl rfl (by kernel_rfl) ?_
    refine WL.call (f := 24) (args := #[.slice p n cap]) 23 rfl (Nat.le_of_ble_eq_true rfl) rfl rfl (by kernel_rfl) ?_
    refine (rDepth_any _ _ _ c A B _ (hR.inC.below (HP.below hH12)) (by omega)).mono ?_
    rintro e w14 ⟨rfl, hb15⟩
    refine ⟨_, rfl, ?_⟩
    have hH16 : HP Tr w _ [] := HP.call hH12 hb15
    refine WL.pure (v := .tuple #[vI (dpD c A B n), vI (chk c A B false n)]) 21 rfl (Nat.le_of_ble_eq_true rfl) rfl rfl (by kernel_rfl) ?_
    refine WL.pure (v := vI (dpD c A B n)) 24 rfl (Nat.le_of_ble_eq_true rfl) rfl rfl (by kernel_rfl) ?_
    refine WL.pure (v := vI (chk c A B false n)) 25 rfl (Nat.le_of_ble_eq_true rfl) rfl rfl (by kernel_rfl) ?_
    refine WL.pure (v := vI (dpD c A B n)) 5 rfl (Nat.le_of_ble_eq_true rfl) rfl rfl (by kernel_rfl) ?_
    refine WL.pure (v := vI (chk c A B false n)) 6 rfl (Nat.le_of_ble_eq_true rfl) rfl rfl (by kernel_rfl) ?_
    refine WL.nil ?_
    refine WQ.then ?_
    refine hK13 _ _ _ ?_
    refine WC.seq fun K17 hK17 => ?_
    refine WC.region ?_
    refine WL.pure (v := .slice p n cap) 27 rfl (Nat.le_of_ble_eq_true rfl) rfl rfl (by kernel_rfl) ?_
    refine WL.call (f := 25) (args := #[.slice p n cap]) 28 rfl (Nat.le_of_ble_eq_true rfl) rfl rfl (by kernel_rfl) ?_
    refine (Depths_any _ _ _ c A B _ (hR.inC.below (HP.below hH16)) (by omega)).mono ?_
    rintro e w1 (⟨hck, rfl, hb⟩ | ⟨hck, g, rfl, hb⟩)
    ·
      refine ⟨_, rfl, ?_⟩
      have hH18 : HP Tr w _ [] := HP.call hH16 hb
      refine WL.pure (v := .tuple #[.slice none 0 0, vI (chk c A B false n)]) 26 rfl (Nat.le_of_ble_eq_true rfl) rfl rfl (by kernel_rfl) ?_
      refine WL.pure (v := .slice none 0 0) 29 rfl (Nat.le_of_ble_eq_true rfl) rfl rfl (by kernel_rfl) ?_
      refine WL.pure (v := vI (chk c A B false n)) 30 rfl (Nat.le_of_ble_eq_true rfl) rfl rfl (by kernel_rfl) ?_
      refine WL.pure (v := .slice none 0 0) 7 rfl (Nat.le_of_ble_eq_true rfl) rfl rfl (by kernel_rfl) ?_
      refine WL.pure (v := vI (chk c A B false n)) 8 rfl (Nat.le_of_ble_eq_true rfl) rfl rfl (by kernel_rfl) ?_
      refine WL.nil ?_
      refine WQ.then ?_
      refine hK17 _ _ _ ?_
      refine WC.sub (l' := [(0, .slice p n cap), (2, .bool false), (3, vI (dpD c A B n)), (4, vI (chk c A B false n)), (5, vI (dpD c A B n)), (6, vI (chk c A B false n)), (7, .slice none 0 0), (8, vI (chk c A B false n)), (14, .bool false)]) ⟨rfl, rfl, rfl, rfl, rfl, rfl, rfl, rfl, rfl, trivial⟩ ?_
      refine WC.seq fun K19 hK19 => ?_
      refine WC.region ?_
      refine WL.pure (v := .slice p n cap) 32 rfl (Nat.le_of_ble_eq_true rfl) rfl rfl (by kernel_rfl) ?_
      refine WL.call (f := 26) (args := #[.slice p n cap]) 33 rfl (Nat.le_of_ble_eq_true rfl) rfl rfl (by kernel_rfl) ?_
      refine (rDepths_any _ _ _ c A B _ (hR.inC.below (HP.below hH18)) (by omega)).mono ?_
      rintro e w2 (⟨-, rfl, hb⟩ | ⟨hck2, -⟩)
      rotate_left
      · exact absurd hck2 hck
      refine ⟨_, rfl, ?_⟩
      have hH20 : HP Tr w _ [] := HP.call hH18 hb
      refine WL.pure (v := .tuple #[.slice none 0 0, vI (chk c A B false n)]) 31 rfl (Nat.le_of_ble_eq_true rfl) rfl rfl (by kernel_rfl) ?_
      refine WL.pure (v := .slice none 0 0) 34 rfl (Nat.le_of_ble_eq_true rfl) rfl rfl (by kernel_rfl) ?_
      refine WL.pure (v := vI (chk c A B false n)) 35 rfl (Nat.le_of_ble_eq_true rfl) rfl rfl (by kernel_rfl) ?_
      refine WL.pure (v := .slice none 0 0) 9 rfl (Nat.le_of_ble_eq_true rfl) rfl rfl (by kernel_rfl) ?_
      refine WL.pure (v := vI (chk c A B false n)) 10 rfl (Nat.le_of_ble_eq_true rfl) rfl rfl (by kernel_rfl) ?_
      refine WL.nil ?_
      refine WQ.then ?_
      refine hK19 _ _ _ ?_
      refine WC.seq fun K21 hK21 => ?_
      refine WC.seq fun K22 hK22 => ?_
      refine WC.region ?_
      refine WL.pure (v := vI (dpD c A B n)) 36 rfl (Nat.le_of_ble_eq_true rfl) rfl rfl (by kernel_rfl) ?_
      refine WL.pure (v := vI (dpD c A B n)) 37 rfl (Nat.le_of_ble_eq_true rfl) rfl rfl (by kernel_rfl) ?_
      refine WL.pure (v := .bool false) 38 rfl (Nat.le_of_ble_eq_true rfl) rfl rfl (x_neq rfl rfl rfl (dF (fun h => h rfl))) ?_
      refine WL.pure (v := .bool false) 39 rfl (Nat.le_of_ble_eq_true rfl) rfl rfl (by kernel_rfl) ?_
      refine WL.pure (v := vI (chk c A B false n)) 40 rfl (Nat.le_of_ble_eq_true rfl) rfl rfl (by kernel_rfl) ?_
      refine WL.pure (v := vI (chk c A B false n)) 41 rfl (Nat.le_of_ble_eq_true rfl) rfl rfl (by kernel_rfl) ?_
      refine WL.pure (v := .bool false) 42 rfl (Nat.le_of_ble_eq_true rfl) rfl rfl (x_neq rfl rfl rfl (dF (fun h => h rfl))) ?_
      refine WL.pure (v := .bool false) 43 rfl (Nat.le_of_ble_eq_true rfl) rfl rfl (by kernel_rfl) ?_
      refine WL.pure (v := .bool false) 44 rfl (Nat.le_of_ble_eq_true rfl) rfl rfl (by kernel_rfl) ?_
      refine WL.pure (v := vI (chk c A B false n)) 45 rfl (Nat.le_of_ble_eq_true rfl) rfl rfl (by kernel_rfl) ?_
      refine WL.pure (v := vI (chk c A B false n)) 46 rfl (Nat.le_of_ble_eq_true rfl) rfl rfl (by kernel_rfl) ?_
      refine WL.pure (v := .bool false) 47 rfl (Nat.le_of_ble_eq_true rfl) rfl rfl (x_neq rfl rfl rfl (dF (fun h => h rfl))) ?_
      refine WL.pure (v := .bool false) 48 rfl (Nat.le_of_ble_eq_true rfl) rfl rfl (by kernel_rfl) ?_
      refine WL.pure (v := .bool false) 49 rfl (Nat.le_of_ble_eq_true rfl) rfl rfl (by kernel_rfl) ?_
      refine WL.pure (v := .slice none 0 0) 50 rfl (Nat.le_of_ble_eq_true rfl) rfl rfl (by kernel_rfl) ?_
      refine WL.pure (v := .slice none 0 0) 51 rfl (Nat.le_of_ble_eq_true rfl) rfl rfl (by kernel_rfl) ?_
      refine WL.call (f := 27) (args := #[.slice none 0 0, .slice none 0 0]) 52 rfl (Nat.le_of_ble_eq_true rfl) rfl rfl (by kernel_rfl) ?_
      refine (Ints_nil _).mono ?_
      rintro e w23 ⟨rfl, hb24⟩
      refine ⟨_, rfl, ?_⟩
      have hH25 : HP Tr w _ [] := HP.call hH20 hb24
      refine WL.pure (v := .bool false) 53 rfl (Nat.le_of_ble_eq_true rfl) rfl rfl (by kernel_rfl) ?_
      refine WL.pure (v := .bool false) 54 rfl (Nat.le_of_ble_eq_true rfl) rfl rfl (by kernel_rfl) ?_
      refine WL.nil ?_
      refine WQ.then ?_
      refine hK22 _ _ _ ?_
      refine WC.sub (l' := [(0, .slice p n cap), (2, .bool false), (3, vI (dpD c A B n)), (4, vI (chk c A B false n)), (5, vI (dpD c A B n)), (6, vI (chk c A B false n)), (7, .slice none 0 0), (8, vI (chk c A B false n)), (9, .slice none 0 0), (10, vI (chk c A B false n)), (14, .bool false), (54, .bool false)]) ⟨rfl, rfl, rfl, rfl, rfl, rfl, rfl, rfl, rfl, rfl, rfl, rfl, trivial⟩ ?_
      refine WC.no rfl ?_
      refine WC.skip ?_
      refine WQ.then ?_
      refine hK21 _ _ _ ?_
      refine WC.seq fun K26 hK26 => ?_
      refine WC.seq fun K27 hK27 => ?_
      refine WC.region ?_
      refine WL.pure (v := vI 0) 11 rfl (Nat.le_of_ble_eq_true rfl) rfl rfl (by kernel_rfl) ?_
      refine WL.nil ?_
      refine WQ.then ?_
      refine hK27 _ _ _ ?_
      refine WC.block ?_
      refine WC.loop (fun kk0 ll0 ww0 => ∃ (k : Nat), ll0 = [(0, .slice p n cap), (3, vI (dpD c A B n)), (7, .slice none 0 0), (11, vI (k : Int))] ∧ kk0 = 0 - k ∧ (k ≤ 0) ∧ HP Tr w ww0 []) (0) [(0, .slice p n cap), (3, vI (dpD c A B n)), (7, .slice none 0 0), (11, vI 0)] ⟨rfl, rfl, rfl, rfl, trivial⟩ ⟨0, rfl, rfl, Nat.zero_le _, hH25⟩ ?_
      rintro kk l w29 ⟨k, rfl, hkk, hk, hH30⟩ K28 hK28
      refine WC.seq fun K31 hK31 => ?_
      refine WC.seq fun K32 hK32 => ?_
      refine WC.region ?_
      refine WL.pure (v := vI (k : Int)) 55 rfl (Nat.le_of_ble_eq_true rfl) rfl rfl (by kernel_rfl) ?_
      refine WL.pure (v := .slice none 0 0) 56 rfl (Nat.le_of_ble_eq_true rfl) rfl rfl (by kernel_rfl) ?_
      refine WL.pure (v := vI 0) 57 rfl (Nat.le_of_ble_eq_true rfl) rfl rfl (by kernel_rfl) ?_
      refine WL.pure (v := .bool false) 58 rfl (Nat.le_of_ble_eq_true rfl) rfl rfl (x_lss rfl rfl rfl (dF (by omega))) ?_
      refine WL.nil ?_
      refine WQ.then ?_
      refine hK32 _ _ _ ?_
      refine WC.no rfl ?_
      refine WC.exit ?_
      refine WQ.thenExit ?_
      refine WQ.thenExit ?_
      refine WQ.inExit ?_
      refine WQ.then ?_
      refine hK26 _ _ _ ?_
      refine WC.seq fun K33 hK33 => ?_
      refine WC.region ?_
      refine WL.pure (v := .slice none 0 0) 108 rfl (Nat.le_of_ble_eq_true rfl) rfl rfl (by kernel_rfl) ?_
      refine WL.pure (v := vI 0) 109 rfl (Nat.le_of_ble_eq_true rfl) rfl rfl (by kernel_rfl) ?_
      refine WL.pure (v := .bool true) 110 rfl (Nat.le_of_ble_eq_true rfl) rfl rfl (x_eql rfl rfl rfl (by decide)) ?_
      refine WL.pure (v := .bool true) 111 rfl (Nat.le_of_ble_eq_true rfl) rfl rfl (by kernel_rfl) ?_
      refine WL.pass 112 rfl (Nat.le_of_ble_eq_true rfl) rfl ?_
      refine WL.pass 113 rfl (Nat.le_of_ble_eq_true rfl) rfl ?_
      refine WL.pass 114 rfl (Nat.le_of_ble_eq_true rfl) rfl ?_
      refine WL.pass 115 rfl (Nat.le_of_ble_eq_true rfl) rfl ?_
      refine WL.pass 116 rfl (Nat.le_of_ble_eq_true rfl) rfl ?_
      refine WL.pass 117 rfl (Nat.le_of_ble_eq_true rfl) rfl ?_
      refine WL.pass 118 rfl (Nat.le_of_ble_eq_true rfl) rfl ?_
      refine WL.pass 119 rfl (Nat.le_of_ble_eq_true rfl) rfl ?_
      refine WL.pass 120 rfl (Nat.le_of_ble_eq_true rfl) rfl ?_
      refine WL.pass 121 rfl (Nat.le_of_ble_eq_true rfl) rfl ?_
      refine WL.pass 122 rfl (Nat.le_of_ble_eq_true rfl) rfl ?_
      refine WL.pass 123 rfl (Nat.le_of_ble_eq_true rfl) rfl ?_
      refine WL.pass 124 rfl (Nat.le_of_ble_eq_true rfl) rfl ?_
      refine WL.pure (v := .bool true) 125 rfl (Nat.le_of_ble_eq_true rfl) rfl rfl (by kernel_rfl) ?_
      refine WL.pure (v := .bool true) 126 rfl (Nat.le_of_ble_eq_true rfl) rfl rfl (by kernel_rfl) ?_
      refine WL.call (f := 14) (args := #[]) 127 rfl (Nat.le_of_ble_eq_true rfl) rfl rfl (by kernel_rfl) ?_
      refine (sane_any _).mono ?_
      rintro e w34 ⟨rfl, hb35⟩
      refine ⟨_, rfl, ?_⟩
      have hH36 : HP Tr w _ [] := HP.call hH30 hb35
      refine WL.pure (v := .bool true) 128 rfl (Nat.le_of_ble_eq_true rfl) rfl rfl (by kernel_rfl) ?_
      refine WL.pure (v := .bool true) 2 rfl (Nat.le_of_ble_eq_true rfl) rfl rfl (by kernel_rfl) ?_
      refine WL.nil ?_
      refine WQ.then ?_
      refine hK33 _ _ _ ?_
      refine WC.sub (l' := [(0, .slice p n cap), (2, .bool true), (3, vI (dpD c A B n)), (7, .slice none 0 0), (11, vI (k : Int)), (58, .bool false)]) ⟨rfl, rfl, rfl, rfl, rfl, rfl, trivial⟩ ?_
      refine WC.ret ?_
      refine WQ.ret1 2 rfl rfl ?_
      exact ⟨rfl, HP.below hH36⟩
    ·
      refine ⟨_, rfl, ?_⟩
      have hB := chk_bal hck
      have hm := hB.hm
      have hdp : dpD c A B n = ((shD c n).m : Int) := dp_ok hck
      have hH37 : HP Tr w _ [.cel g (irow n (shD c n).t) 3] := HP.trans hH16 hb
      refine WL.pure (v := .tuple #[vS g n n, vI 0]) 26 rfl (Nat.le_of_ble_eq_true rfl) rfl rfl (by kernel_rfl) ?_
      refine WL.pure (v := vS g n n) 29 rfl (Nat.le_of_ble_eq_true rfl) rfl rfl (by kernel_rfl) ?_
      refine WL.pure (v := vI 0) 30 rfl (Nat.le_of_ble_eq_true rfl) rfl rfl (by kernel_rfl) ?_
      refine WL.pure (v := vS g n n) 7 rfl (Nat.le_of_ble_eq_true rfl) rfl rfl (by kernel_rfl) ?_
      refine WL.pure (v := vI 0) 8 rfl (Nat.le_of_ble_eq_true rfl) rfl rfl (by kernel_rfl) ?_
      refine WL.nil ?_
      refine WQ.then ?_
      refine hK17 _ _ _ ?_
      refine WC.sub (l' := [(0, .slice p n cap), (2, .bool false), (3, vI (dpD c A B n)), (4, vI (chk c A B false n)), (5, vI (dpD c A B n)), (6, vI (chk c A B false n)), (7, vS g n n), (8, vI 0), (14, .bool false)]) ⟨rfl, rfl, rfl, rfl, rfl, rfl, rfl, rfl, rfl, trivial⟩ ?_
      refine WC.seq fun K38 hK38 => ?_
      refine WC.region ?_
      refine WL.pure (v := .slice p n cap) 32 rfl (Nat.le_of_ble_eq_true rfl) rfl rfl (by kernel_rfl) ?_
      refine WL.call (f := 26) (args := #[.slice p n cap]) 33 rfl (Nat.le_of_ble_eq_true rfl) rfl rfl (by kernel_rfl) ?_
      refine (rDepths_any _ _ _ c A B _ (hR.inC.below (HP.below hH37)) (by omega)).mono ?_
      rintro e w2 (⟨hck2, -⟩ | ⟨-, g2, rfl, hb⟩)
      · exact absurd hck hck2
      refine ⟨_, rfl, ?_⟩
      have hH39 : HP Tr w _ [.cel g (irow n (shD c n).t) 3, .cel g2 (irow n (shD c n).t) 3] := HP.trans hH37 hb
      refine WL.pure (v := .tuple #[vS g2 n n, vI 0]) 31 rfl (Nat.le_of_ble_eq_true rfl) rfl rfl (by kernel_rfl) ?_
      refine WL.pure (v := vS g2 n n) 34 rfl (Nat.le_of_ble_eq_true rfl) rfl rfl (by kernel_rfl) ?_
      refine WL.pure (v := vI 0) 35 rfl (Nat.le_of_ble_eq_true rfl) rfl rfl (by kernel_rfl) ?_
      refine WL.pure (v := vS g2 n n) 9 rfl (Nat.le_of_ble_eq_true rfl) rfl rfl (by kernel_rfl) ?_
      refine WL.pure (v := vI 0) 10 rfl (Nat.le_of_ble_eq_true rfl) rfl rfl (by kernel_rfl) ?_
      refine WL.nil ?_
      refine WQ.then ?_
      refine hK38 _ _ _ ?_
      refine WC.seq fun K40 hK40 => ?_
      refine WC.seq fun K41 hK41 => ?_
      refine WC.region ?_
      refine WL.pure (v := vI (dpD c A B n)) 36 rfl (Nat.le_of_ble_eq_true rfl) rfl rfl (by kernel_rfl) ?_
      refine WL.pure (v := vI (dpD c A B n)) 37 rfl (Nat.le_of_ble_eq_true rfl) rfl rfl (by kernel_rfl) ?_
      refine WL.pure (v := .bool false) 38 rfl (Nat.le_of_ble_eq_true rfl) rfl rfl (x_neq rfl rfl rfl (dF (fun h => h rfl))) ?_
      refine WL.pure (v := .bool false) 39 rfl (Nat.le_of_ble_eq_true rfl) rfl rfl (by kernel_rfl) ?_
      refine WL.pure (v := vI (chk c A B false n)) 40 rfl (Nat.le_of_ble_eq_true rfl) rfl rfl (by kernel_rfl) ?_
      refine WL.pure (v := vI (chk c A B false n)) 41 rfl (Nat.le_of_ble_eq_true rfl) rfl rfl (by kernel_rfl) ?_
      refine WL.pure (v := .bool false) 42 rfl (Nat.le_of_ble_eq_true rfl) rfl rfl (x_neq rfl rfl rfl (dF (fun h => h rfl))) ?_
      refine WL.pure (v := .bool false) 43 rfl (Nat.le_of_ble_eq_true rfl) rfl rfl (by kernel_rfl) ?_
      refine WL.pure (v := .bool false) 44 rfl (Nat.le_of_ble_eq_true rfl) rfl rfl (by kernel_rfl) ?_
      refine WL.pure (v := vI 0) 45 rfl (Nat.le_of_ble_eq_true rfl) rfl rfl (by kernel_rfl) ?_
      refine WL.pure (v := vI 0) 46 rfl (Nat.le_of_ble_eq_true rfl) rfl rfl (by kernel_rfl) ?_
      refine WL.pure (v := .bool false) 47 rfl (Nat.le_of_ble_eq_true rfl) rfl rfl (x_neq rfl rfl rfl (by decide)) ?_
      refine WL.pure (v := .bool false) 48 rfl (Nat.le_of_ble_eq_true rfl) rfl rfl (by kernel_rfl) ?_
      refine WL.pure (v := .bool false) 49 rfl (Nat.le_of_ble_eq_true rfl) rfl rfl (by kernel_rfl) ?_
      refine WL.pure (v := vS g n n) 50 rfl (Nat.le_of_ble_eq_true rfl) rfl rfl (by kernel_rfl) ?_
      refine WL.pure (v := vS g2 n n) 51 rfl (Nat.le_of_ble_eq_true rfl) rfl rfl (by kernel_rfl) ?_
      refine WL.call (f := 27) (args := #[vS g n n, vS g2 n n]) 52 rfl (Nat.le_of_ble_eq_true rfl) rfl rfl (by kernel_rfl) ?_
      refine (Ints_any g g2 n (shD c n).t _ (fun i hi => HP.cell hH39 0 rfl (irow_get hi rfl)) (fun i hi => HP.cell hH39 1 rfl (irow_get hi rfl)) (by omega)).mono ?_
      rintro e w42 ⟨rfl, hb43⟩
      refine ⟨_, rfl, ?_⟩
      have hH44 : HP Tr w _ [.cel g (irow n (shD c n).t) 3, .cel g2 (irow n (shD c n).t) 3] := HP.call hH39 hb43
      refine WL.pure (v := .bool false) 53 rfl (Nat.le_of_ble_eq_true rfl) rfl rfl (by kernel_rfl) ?_
      refine WL.pure (v := .bool false) 54 rfl (Nat.le_of_ble_eq_true rfl) rfl rfl (by kernel_rfl) ?_
      refine WL.nil ?_
      refine WQ.then ?_
      refine hK41 _ _ _ ?_
      refine WC.sub (l' := [(0, .slice p n cap), (2, .bool false), (3, vI (dpD c A B n)), (4, vI (chk c A B false n)), (5, vI (dpD c A B n)), (6, vI (chk c A B false n)), (7, vS g n n), (8, vI 0), (9, vS g2 n n), (10, vI 0), (14, .bool false), (54, .bool false)]) ⟨rfl, rfl, rfl, rfl, rfl, rfl, rfl, rfl, rfl, rfl, rfl, rfl, trivial⟩ ?_
      refine WC.no rfl ?_
      refine WC.skip ?_
      refine WQ.then ?_
      refine hK40 _ _ _ ?_
      refine WC.seq fun K45 hK45 => ?_
      refine WC.seq fun K46 hK46 => ?_
      refine WC.region ?_
      refine WL.pure (v := vI 0) 11 rfl (Nat.le_of_ble_eq_true rfl) rfl rfl (by kernel_rfl) ?_
      refine WL.nil ?_
      refine WQ.then ?_
      refine hK46 _ _ _ ?_
      refine WC.block ?_
      refine WC.loop (fun kk0 ll0 ww0 => ∃ (k : Nat), ll0 = [(0, .slice p n cap), (3, vI (dpD c A B n)), (7, vS g n n), (11, vI (k : Int))] ∧ kk0 = n - k ∧ (k ≤ n) ∧ HP Tr w ww0 [.cel g (irow n (shD c n).t) 3, .cel g2 (irow n (shD c n).t) 3]) (n) [(0, .slice p n cap), (3, vI (dpD c A B n)), (7, vS g n n), (11, vI 0)] ⟨rfl, rfl, rfl, rfl, trivial⟩ ⟨0, rfl, rfl, Nat.zero_le _, hH44⟩ ?_
      rintro kk l w48 ⟨k, rfl, hkk, hk, hH49⟩ K47 hK47
      refine WC.seq fun K50 hK50 => ?_
      refine WC.seq fun K51 hK51 => ?_
      refine WC.region ?_
      refine WL.pure (v := vI (k : Int)) 55 rfl (Nat.le_of_ble_eq_true rfl) rfl rfl (by kernel_rfl) ?_
      refine WL.pure (v := vS g n n) 56 rfl (Nat.le_of_ble_eq_true rfl) rfl rfl (by kernel_rfl) ?_
      refine WL.pure (v := vI (n : Int)) 57 rfl (Nat.le_of_ble_eq_true rfl) rfl rfl (by kernel_rfl) ?_
      by_cases hlt : (k : Int) < (n : Int)
      ·
        refine WL.pure (v := .bool true) 58 rfl (Nat.le_of_ble_eq_true rfl) rfl rfl (x_lss rfl rfl rfl (dT (hlt))) ?_
        refine WL.nil ?_
        refine WQ.then ?_
        refine hK51 _ _ _ ?_
        refine WC.yes rfl ?_
        refine WC.skip ?_
        refine WQ.then ?_
        refine hK50 _ _ _ ?_
        refine WC.seq fun K52 hK52 => ?_
        refine WC.block ?_
        refine WC.seq fun K53 hK53 => ?_
        have t1 := t_range hB (show k < n by omega)
        refine WC.still (by kernel_rfl) (by kernel_rfl) ?_
        have hH54 : HP Tr w _ [.cel g (irow n (shD c n).t) 3, .cel g2 (irow n (shD c n).t) 3] := HP.drew hH49
        refine WS.val (v := vS g n n) 61 rfl (Nat.le_of_ble_eq_true rfl) rfl rfl (by kernel_rfl) ?_
        refine WS.val (v := vI (k : Int)) 62 rfl (Nat.le_of_ble_eq_true rfl) rfl rfl (by kernel_rfl) ?_
        refine WS.val (v := vP g k) 63 rfl (Nat.le_of_ble_eq_true rfl) rfl rfl (x_idx (k) (k) rfl rfl rfl Try.underlying40 sz3 (by omega) (by omega) (by omega)) ?_
        refine WS.val (v := vI (((shD c n).t) k)) 64 rfl (Nat.le_of_ble_eq_true rfl) rfl rfl (x_load rfl rfl Try.underlying3 rfl (HP.cell hH54 0 rfl (irow_get (by omega) rfl))) ?_
        refine WS.val (v := .bool false) 65 rfl (Nat.le_of_ble_eq_true rfl) rfl rfl (x_lss rfl rfl rfl (dF (by omega))) ?_
        refine WS.val (v := .bool false) 66 rfl (Nat.le_of_ble_eq_true rfl) rfl rfl (by kernel_rfl) ?_
        refine WS.val (v := vS g n n) 67 rfl (Nat.le_of_ble_eq_true rfl) rfl rfl (by kernel_rfl) ?_
        refine WS.val (v := vI (k : Int)) 68 rfl (Nat.le_of_ble_eq_true rfl) rfl rfl (by kernel_rfl) ?_
        refine WS.val (v := vP g k) 69 rfl (Nat.le_of_ble_eq_true rfl) rfl rfl (x_idx (k) (k) rfl rfl rfl Try.underlying40 sz3 (by omega) (by omega) (by omega)) ?_
        refine WS.val (v := vI (((shD c n).t) k)) 70 rfl (Nat.le_of_ble_eq_true rfl) rfl rfl (x_load rfl rfl Try.underlying3 rfl (HP.cell hH54 0 rfl (irow_get (by omega) rfl))) ?_
        refine WS.val (v := vI (dpD c A B n)) 71 rfl (Nat.le_of_ble_eq_true rfl) rfl rfl (by kernel_rfl) ?_
        refine WS.val (v := .bool false) 72 rfl (Nat.le_of_ble_eq_true rfl) rfl rfl (x_gtr rfl rfl rfl (dF (by omega))) ?_
        refine WS.val (v := .bool false) 73 rfl (Nat.le_of_ble_eq_true rfl) rfl rfl (by kernel_rfl) ?_
        refine WS.val (v := .bool false) 74 rfl (Nat.le_of_ble_eq_true rfl) rfl rfl (by kernel_rfl) ?_
        refine WS.val (v := vI (dpD c A B n)) 75 rfl (Nat.le_of_ble_eq_true rfl) rfl rfl (by kernel_rfl) ?_
        refine WS.val (v := .bool false) 76 rfl (Nat.le_of_ble_eq_true rfl) rfl rfl (x_gtr rfl rfl rfl (dF (by omega))) ?_
        refine WS.val (v := .bool false) 77 rfl (Nat.le_of_ble_eq_true rfl) rfl rfl (by kernel_rfl) ?_
        refine WS.val (v := .bool false) 78 rfl (Nat.le_of_ble_eq_true rfl) rfl rfl (by kernel_rfl) ?_
        refine WS.val (v := vI (k : Int)) 79 rfl (Nat.le_of_ble_eq_true rfl) rfl rfl (by kernel_rfl) ?_
        by_cases h0 : (0 : Int) < (k : Int)
        ·
          have t2 := t_next hB (show (k - 1) + 1 < n by omega)
          rw [show k - 1 + 1 = k by omega] at t2
          refine WS.val (v := .bool true) 80 rfl (Nat.le_of_ble_eq_true rfl) rfl rfl (x_gtr rfl rfl rfl (dT (h0))) ?_
          refine WS.val (v := .bool true) 81 rfl (Nat.le_of_ble_eq_true rfl) rfl rfl (by kernel_rfl) ?_
          refine WS.val (v := vS g n n) 82 rfl (Nat.le_of_ble_eq_true rfl) rfl rfl (by kernel_rfl) ?_
          refine WS.val (v := vI (k : Int)) 83 rfl (Nat.le_of_ble_eq_true rfl) rfl rfl (by kernel_rfl) ?_
          refine WS.val (v := vP g k) 84 rfl (Nat.le_of_ble_eq_true rfl) rfl rfl (x_idx (k) (k) rfl rfl rfl Try.underlying40 sz3 (by omega) (by omega) (by omega)) ?_
          refine WS.val (v := vI (((shD c n).t) k)) 85 rfl (Nat.le_of_ble_eq_true rfl) rfl rfl (x_load rfl rfl Try.underlying3 rfl (HP.cell hH54 0 rfl (irow_get (by omega) rfl))) ?_
          refine WS.val (v := vS g n n) 86 rfl (Nat.le_of_ble_eq_true rfl) rfl rfl (by kernel_rfl) ?_
          refine WS.val (v := vI (k : Int)) 87 rfl (Nat.le_of_ble_eq_true rfl) rfl rfl (by kernel_rfl) ?_
          refine WS.val (v := vI ((k - 1 : Nat) : Int)) 88 rfl (Nat.le_of_ble_eq_true rfl) rfl rfl (x_sub (Z := ((k - 1 : Nat) : Int)) rfl rfl rfl (by omega) (by omega) (by omega)) ?_
          refine WS.val (v := vP g (k - 1)) 89 rfl (Nat.le_of_ble_eq_true rfl) rfl rfl (x_idx (k - 1) (k - 1) rfl rfl rfl Try.underlying40 sz3 (by omega) (by omega) (by omega)) ?_
          refine WS.val (v := vI (((shD c n).t) (k - 1))) 90 rfl (Nat.le_of_ble_eq_true rfl) rfl rfl (x_load rfl rfl Try.underlying3 rfl (HP.cell hH54 0 rfl (irow_get (by omega) rfl))) ?_
          refine WS.val (v := vI ((((shD c n).t) k) - (((shD c n).t) (k - 1)))) 91 rfl (Nat.le_of_ble_eq_true rfl) rfl rfl (x_sub (Z := (((shD c n).t) k) - (((shD c n).t) (k - 1))) rfl rfl rfl (by omega) (by omega) (by omega)) ?_
          refine WS.val (v := .bool false) 92 rfl (Nat.le_of_ble_eq_true rfl) rfl rfl (x_gtr rfl rfl rfl (dF (by omega))) ?_
          refine WS.val (v := .bool false) 93 rfl (Nat.le_of_ble_eq_true rfl) rfl rfl (by kernel_rfl) ?_
          refine WS.val (v := vS g n n) 94 rfl (Nat.le_of_ble_eq_true rfl) rfl rfl (by kernel_rfl) ?_
          refine WS.val (v := vI (k : Int)) 95 rfl (Nat.le_of_ble_eq_true rfl) rfl rfl (by kernel_rfl) ?_
          refine WS.val (v := vI ((k - 1 : Nat) : Int)) 96 rfl (Nat.le_of_ble_eq_true rfl) rfl rfl (x_sub (Z := ((k - 1 : Nat) : Int)) rfl rfl rfl (by omega) (by omega) (by omega)) ?_
          refine WS.val (v := vP g (k - 1)) 97 rfl (Nat.le_of_ble_eq_true rfl) rfl rfl (x_idx (k - 1) (k - 1) rfl rfl rfl Try.underlying40 sz3 (by omega) (by omega) (by omega)) ?_
          refine WS.val (v := vI (((shD c n).t) (k - 1))) 98 rfl (Nat.le_of_ble_eq_true rfl) rfl rfl (x_load rfl rfl Try.underlying3 rfl (HP.cell hH54 0 rfl (irow_get (by omega) rfl))) ?_
          refine WS.val (v := vS g n n) 99 rfl (Nat.le_of_ble_eq_true rfl) rfl rfl (by kernel_rfl) ?_
          refine WS.val (v := vI (k : Int)) 100 rfl (Nat.le_of_ble_eq_true rfl) rfl rfl (by kernel_rfl) ?_
          refine WS.val (v := vP g k) 101 rfl (Nat.le_of_ble_eq_true rfl) rfl rfl (x_idx (k) (k) rfl rfl rfl Try.underlying40 sz3 (by omega) (by omega) (by omega)) ?_
          refine WS.val (v := vI (((shD c n).t) k)) 102 rfl (Nat.le_of_ble_eq_true rfl) rfl rfl (x_load rfl rfl Try.underlying3 rfl (HP.cell hH54 0 rfl (irow_get (by omega) rfl))) ?_
          refine WS.val (v := vI ((((shD c n).t) (k - 1)) - (((shD c n).t) k))) 103 rfl (Nat.le_of_ble_eq_true rfl) rfl rfl (x_sub (Z := (((shD c n).t) (k - 1)) - (((shD c n).t) k)) rfl rfl rfl (by omega) (by omega) (by omega)) ?_
          refine WS.val (v := .bool false) 104 rfl (Nat.le_of_ble_eq_true rfl) rfl rfl (x_gtr rfl rfl rfl (dF (by omega))) ?_
          refine WS.val (v := .bool false) 105 rfl (Nat.le_of_ble_eq_true rfl) rfl rfl (by kernel_rfl) ?_
          refine WS.val (v := .bool false) 106 rfl (Nat.le_of_ble_eq_true rfl) rfl rfl (by kernel_rfl) ?_
          refine WS.val (v := .bool false) 107 rfl (Nat.le_of_ble_eq_true rfl) rfl rfl (by kernel_rfl) ?_
          refine WS.nilQ ?_
          refine WQ.then ?_
          refine hK53 _ _ _ ?_
          refine WC.sub (l' := [(0, .slice p n cap), (3, vI (dpD c A B n)), (7, vS g n n), (11, vI (k : Int)), (58, .bool true), (107, .bool false)]) ⟨rfl, rfl, rfl, rfl, rfl, rfl, trivial⟩ ?_
          refine WC.no rfl ?_
          refine WC.skip ?_
          refine WQ.inNormal ?_
          refine WQ.then ?_
          refine hK52 _ _ _ ?_
          refine WC.region ?_
          refine WL.pure (v := vI (k : Int)) 59 rfl (Nat.le_of_ble_eq_true rfl) rfl rfl (by kernel_rfl) ?_
          refine WL.pure (v := vI ((k + 1 : Nat) : Int)) 60 rfl (Nat.le_of_ble_eq_true rfl) rfl rfl (x_add (Z := ((k + 1 : Nat) : Int)) rfl rfl rfl (by omega) (by omega) (by omega)) ?_
          refine WL.pure (v := vI ((k + 1 : Nat) : Int)) 11 rfl (Nat.le_of_ble_eq_true rfl) rfl rfl (by kernel_rfl) ?_
          refine WL.nil ?_
          refine WQ.sub (l' := [(0, .slice p n cap), (3, vI (dpD c A B n)), (7, vS g n n), (11, vI ((k + 1 : Nat) : Int))]) ⟨rfl, rfl, rfl, rfl, trivial⟩ ?_
          refine WQ.then (hK47 _ _ _ (by omega) ⟨k + 1, rfl, rfl, by omega, hH54⟩)
        ·
          refine WS.val (v := .bool false) 80 rfl (Nat.le_of_ble_eq_true rfl) rfl rfl (x_gtr rfl rfl rfl (dF (h0))) ?_
          refine WS.val (v := .bool false) 81 rfl (Nat.le_of_ble_eq_true rfl) rfl rfl (by kernel_rfl) ?_
          refine WS.pass 82 rfl (Nat.le_of_ble_eq_true rfl) rfl ?_
          refine WS.pass 83 rfl (Nat.le_of_ble_eq_true rfl) rfl ?_
          refine WS.pass 84 rfl (Nat.le_of_ble_eq_true rfl) rfl ?_
          refine WS.pass 85 rfl (Nat.le_of_ble_eq_true rfl) rfl ?_
          refine WS.pass 86 rfl (Nat.le_of_ble_eq_true rfl) rfl ?_
          refine WS.pass 87 rfl (Nat.le_of_ble_eq_true rfl) rfl ?_
          refine WS.pass 88 rfl (Nat.le_of_ble_eq_true rfl) rfl ?_
          refine WS.pass 89 rfl (Nat.le_of_ble_eq_true rfl) rfl ?_
          refine WS.pass 90 rfl (Nat.le_of_ble_eq_true rfl) rfl ?_
          refine WS.pass 91 rfl (Nat.le_of_ble_eq_true rfl) rfl ?_
          refine WS.pass 92 rfl (Nat.le_of_ble_eq_true rfl) rfl ?_
          refine WS.pass 93 rfl (Nat.le_of_ble_eq_true rfl) rfl ?_
          refine WS.pass 94 rfl (Nat.le_of_ble_eq_true rfl) rfl ?_
          refine WS.pass 95 rfl (Nat.le_of_ble_eq_true rfl) rfl ?_
          refine WS.pass 96 rfl (Nat.le_of_ble_eq_true rfl) rfl ?_
          refine WS.pass 97 rfl (Nat.le_of_ble_eq_true rfl) rfl ?_
          refine WS.pass 98 rfl (Nat.le_of_ble_eq_true rfl) rfl ?_
          refine WS.pass 99 rfl (Nat.le_of_ble_eq_true rfl) rfl ?_
          refine WS.pass 100 rfl (Nat.le_of_ble_eq_true rfl) rfl ?_
          refine WS.pass 101 rfl (Nat.le_of_ble_eq_true rfl) rfl ?_
          refine WS.pass 102 rfl (Nat.le_of_ble_eq_true rfl) rfl ?_
          refine WS.pass 103 rfl (Nat.le_of_ble_eq_true rfl) rfl ?_
          refine WS.pass 104 rfl (Nat.le_of_ble_eq_true rfl) rfl ?_
          refine WS.pass 105 rfl (Nat.le_of_ble_eq_true rfl) rfl ?_
          refine WS.val (v := .bool false) 106 rfl (Nat.le_of_ble_eq_true rfl) rfl rfl (by kernel_rfl) ?_
          refine WS.val (v := .bool false) 107 rfl (Nat.le_of_ble_eq_true rfl) rfl rfl (by kernel_rfl) ?_
          refine WS.nilQ ?_
          refine WQ.then ?_
          refine hK53 _ _ _ ?_
          refine WC.sub (l' := [(0, .slice p n cap), (3, vI (dpD c A B n)), (7, vS g n n), (11, vI (k : Int)), (58, .bool true), (107, .bool false)]) ⟨rfl, rfl, rfl, rfl, rfl, rfl, trivial⟩ ?_
          refine WC.no rfl ?_
          refine WC.skip ?_
          refine WQ.inNormal ?_
          refine WQ.then ?_
          refine hK52 _ _ _ ?_
          refine WC.region ?_
          refine WL.pure (v := vI (k : Int)) 59 rfl (Nat.le_of_ble_eq_true rfl) rfl rfl (by kernel_rfl) ?_
          refine WL.pure (v := vI ((k + 1 : Nat) : Int)) 60 rfl (Nat.le_of_ble_eq_true rfl) rfl rfl (x_add (Z := ((k + 1 : Nat) : Int)) rfl rfl rfl (by omega) (by omega) (by omega)) ?_
          refine WL.pure (v := vI ((k + 1 : Nat) : Int)) 11 rfl (Nat.le_of_ble_eq_true rfl) rfl rfl (by kernel_rfl) ?_
          refine WL.nil ?_
          refine WQ.sub (l' := [(0, .slice p n cap), (3, vI (dpD c A B n)), (7, vS g n n), (11, vI ((k + 1 : Nat) : Int))]) ⟨rfl, rfl, rfl, rfl, trivial⟩ ?_
          refine WQ.then (hK47 _ _ _ (by omega) ⟨k + 1, rfl, rfl, by omega, hH54⟩)
      ·
        refine WL.pure (v := .bool false) 58 rfl (Nat.le_of_ble_eq_true rfl) rfl rfl (x_lss rfl rfl rfl (dF (hlt))) ?_
        refine WL.nil ?_
        refine WQ.then ?_
        refine hK51 _ _ _ ?_
        refine WC.no rfl ?_
        refine WC.exit ?_
        refine WQ.thenExit ?_
        refine WQ.thenExit ?_
        refine WQ.inExit ?_
        refine WQ.then ?_
        refine hK45 _ _ _ ?_
        refine WC.seq fun K55 hK55 => ?_
        refine WC.region ?_
        refine WL.pure (v := vS g n n) 108 rfl (Nat.le_of_ble_eq_true rfl) rfl rfl (by kernel_rfl) ?_
        refine WL.pure (v := vI (n : Int)) 109 rfl (Nat.le_of_ble_eq_true rfl) rfl rfl (by kernel_rfl) ?_
        by_cases hz : (n : Int) = 0
        ·
          refine WL.pure (v := .bool true) 110 rfl (Nat.le_of_ble_eq_true rfl) rfl rfl (x_eql rfl rfl rfl (dT (hz))) ?_
          refine WL.pure (v := .bool true) 111 rfl (Nat.le_of_ble_eq_true rfl) rfl rfl (by kernel_rfl) ?_
          refine WL.pass 112 rfl (Nat.le_of_ble_eq_true rfl) rfl ?_
          refine WL.pass 113 rfl (Nat.le_of_ble_eq_true rfl) rfl ?_
          refine WL.pass 114 rfl (Nat.le_of_ble_eq_true rfl) rfl ?_
          refine WL.pass 115 rfl (Nat.le_of_ble_eq_true rfl) rfl ?_
          refine WL.pass 116 rfl (Nat.le_of_ble_eq_true rfl) rfl ?_
          refine WL.pass 117 rfl (Nat.le_of_ble_eq_true rfl) rfl ?_
          refine WL.pass 118 rfl (Nat.le_of_ble_eq_true rfl) rfl ?_
          refine WL.pass 119 rfl (Nat.le_of_ble_eq_true rfl) rfl ?_
          refine WL.pass 120 rfl (Nat.le_of_ble_eq_true rfl) rfl ?_
          refine WL.pass 121 rfl (Nat.le_of_ble_eq_true rfl) rfl ?_
          refine WL.pass 122 rfl (Nat.le_of_ble_eq_true rfl) rfl ?_
          refine WL.pass 123 rfl (Nat.le_of_ble_eq_true rfl) rfl ?_
          refine WL.pass 124 rfl (Nat.le_of_ble_eq_true rfl) rfl ?_
          refine WL.pure (v := .bool true) 125 rfl (Nat.le_of_ble_eq_true rfl) rfl rfl (by kernel_rfl) ?_
          refine WL.pure (v := .bool true) 126 rfl (Nat.le_of_ble_eq_true rfl) rfl rfl (by kernel_rfl) ?_
          refine WL.call (f := 14) (args := #[]) 127 rfl (Nat.le_of_ble_eq_true rfl) rfl rfl (by kernel_rfl) ?_
          refine (sane_any _).mono ?_
          rintro e w56 ⟨rfl, hb57⟩
          refine ⟨_, rfl, ?_⟩
          have hH58 : HP Tr w _ [.cel g (irow n (shD c n).t) 3, .cel g2 (irow n (shD c n).t) 3] := HP.call hH49 hb57
          refine WL.pure (v := .bool true) 128 rfl (Nat.le_of_ble_eq_true rfl) rfl rfl (by kernel_rfl) ?_
          refine WL.pure (v := .bool true) 2 rfl (Nat.le_of_ble_eq_true rfl) rfl rfl (by kernel_rfl) ?_
          refine WL.nil ?_
          refine WQ.then ?_
          refine hK55 _ _ _ ?_
          refine WC.sub (l' := [(0, .slice p n cap), (2, .bool true), (3, vI (dpD c A B n)), (7, vS g n n), (11, vI (k : Int)), (58, .bool false)]) ⟨rfl, rfl, rfl, rfl, rfl, rfl, trivial⟩ ?_
          refine WC.ret ?_
          refine WQ.ret1 2 rfl rfl ?_
          exact ⟨rfl, HP.below hH58⟩
        ·
          refine WL.pure (v := .bool false) 110 rfl (Nat.le_of_ble_eq_true rfl) rfl rfl (x_eql rfl rfl rfl (dF (hz))) ?_
          refine WL.pure (v := .bool false) 111 rfl (Nat.le_of_ble_eq_true rfl) rfl rfl (by kernel_rfl) ?_
          refine WL.pure (v := vS g n n) 112 rfl (Nat.le_of_ble_eq_true rfl) rfl rfl (by kernel_rfl) ?_
          refine WL.pure (v := vP g 0) 113 rfl (Nat.le_of_ble_eq_true rfl) rfl rfl (x_idx (0) (0) rfl rfl rfl Try.underlying40 sz3 (by omega) (by omega) (by omega)) ?_
          refine WL.pure (v := vI (((shD c n).t) 0)) 114 rfl (Nat.le_of_ble_eq_true rfl) rfl rfl (x_load rfl rfl Try.underlying3 rfl (HP.cell hH49 0 rfl (irow_get (by omega) rfl))) ?_
          refine WL.pure (v := .bool true) 115 rfl (Nat.le_of_ble_eq_true rfl) rfl rfl (x_eql rfl rfl rfl (dT (by have := t_first hB (by omega); omega))) ?_
          refine WL.pure (v := .bool true) 116 rfl (Nat.le_of_ble_eq_true rfl) rfl rfl (by kernel_rfl) ?_
          refine WL.pure (v := vS g n n) 117 rfl (Nat.le_of_ble_eq_true rfl) rfl rfl (by kernel_rfl) ?_
          refine WL.pure (v := vS g n n) 118 rfl (Nat.le_of_ble_eq_true rfl) rfl rfl (by kernel_rfl) ?_
          refine WL.pure (v := vI (n : Int)) 119 rfl (Nat.le_of_ble_eq_true rfl) rfl rfl (by kernel_rfl) ?_
          refine WL.pure (v := vI ((n - 1 : Nat) : Int)) 120 rfl (Nat.le_of_ble_eq_true rfl) rfl rfl (x_sub (Z := ((n - 1 : Nat) : Int)) rfl rfl rfl (by omega) (by omega) (by omega)) ?_
          refine WL.pure (v := vP g (n - 1)) 121 rfl (Nat.le_of_ble_eq_true rfl) rfl rfl (x_idx (n - 1) (n - 1) rfl rfl rfl Try.underlying40 sz3 (by omega) (by omega) (by omega)) ?_
          refine WL.pure (v := vI (((shD c n).t) (n - 1))) 122 rfl (Nat.le_of_ble_eq_true rfl) rfl rfl (x_load rfl rfl Try.underlying3 rfl (HP.cell hH49 0 rfl (irow_get (by omega) rfl))) ?_
          refine WL.pure (v := .bool true) 123 rfl (Nat.le_of_ble_eq_true rfl) rfl rfl (x_eql rfl rfl rfl (dT (by have := t_last hB (show (n - 1) + 1 = n by omega); omega))) ?_
          refine WL.pure (v := .bool true) 124 rfl (Nat.le_of_ble_eq_true rfl) rfl rfl (by kernel_rfl) ?_
          refine WL.pure (v := .bool true) 125 rfl (Nat.le_of_ble_eq_true rfl) rfl rfl (by kernel_rfl) ?_
          refine WL.pure (v := .bool true) 126 rfl (Nat.le_of_ble_eq_true rfl) rfl rfl (by kernel_rfl) ?_
          refine WL.call (f := 14) (args := #[]) 127 rfl (Nat.le_of_ble_eq_true rfl) rfl rfl (by kernel_rfl) ?_
          refine (sane_any _).mono ?_
          rintro e w59 ⟨rfl, hb60⟩
          refine ⟨_, rfl, ?_⟩
          have hH61 : HP Tr w _ [.cel g (irow n (shD c n).t) 3, .cel g2 (irow n (shD c n).t) 3] := HP.call hH49 hb60
          refine WL.pure (v := .bool true) 128 rfl (Nat.le_of_ble_eq_true rfl) rfl rfl (by kernel_rfl) ?_
          refine WL.pure (v := .bool true) 2 rfl (Nat.le_of_ble_eq_true rfl) rfl rfl (by kernel_rfl) ?_
          refine WL.nil ?_
          refine WQ.then ?_
          refine hK55 _ _ _ ?_
          refine WC.sub (l' := [(0, .slice p n cap), (2, .bool true), (3, vI (dpD c A B n)), (7, vS g n n), (11, vI (k : Int)), (58, .bool false)]) ⟨rfl, rfl, rfl, rfl, rfl, rfl, trivial⟩ ?_
          refine WC.ret ?_
          refine WQ.ret1 2 rfl rfl ?_
          exact ⟨rfl, HP.below hH61⟩

theorem own : ownKnob Try.prog.godebug = none := by kernel_rfl
theorem laidOut : laidOutB Try.prog = true := by kernel_rfl

set_option maxRecDepth 100000 in
theorem lifted (os : Os) (started : os.Started) (H : Type) (enc : TypeId × Value → H) :
    ReturnsInHanded {} Try.checked os 6 .any (Rows.codeDepthsSpec.pre6 enc Try.prog Try.f6 Rows.codeDepthsRow.domain false) (Rows.codeDepthsSpec.post enc Try.prog Try.f6 false true false false) := by
  refine returnsInHanded_of_change (C := Try.checked) own started (by kernel_rfl) Try.func6
    (ChangeSpec.witness6 (enc := enc) (C := Try.checked) false ⟨#[], #[.slice none 0 0], []⟩ 8 (by kernel_rfl) (by kernel_rfl) (by kernel_rfl) (by kernel_rfl)) ?_
  intro W base args ds gs before hval0 hW hcnd _
  have hval : ∀ (j : Nat) t v, Try.f6.params[j]? = some t → args[j]? = some v → Value.okWide Try.prog W .any base t v := hval0
  have hW' := hW
  obtain ⟨p, q, hA0, hV, rfl, hfz, hnd⟩ := hW
  have hA : DataW.TrodAll enc Try.prog W 0 (fun _ => true) true Try.f6.params.toList args.toList ds p := hA0
  rw [Try.params6] at hA hval
  obtain ⟨v0, vs0, d0, ds0, p0, q0, hargs, rfl, rfl, h0, r0⟩ := trodAll_cons hA
  obtain ⟨rfl, rfl, rfl⟩ := trodAll_nil r0
  obtain rfl : args = #[v0] := by cases args; simp_all
  obtain ⟨rfl, rfl⟩ := trodVars_none hV
  have k0 := h0
  have lt0 : ∀ x ∈ p0, x.block < W.heap.size := by obtain ⟨m, hm⟩ := k0; exact DataW.trod_lt m _ _ _ hm
  obtain ⟨b0, n0, cap0, rfl⟩ := okWide_slice Try.underlying30 (hval 0 30 v0 rfl rfl)
  obtain ⟨c0, A0, B0, hrow0⟩ := rows3 h0 lt0
  clear hA0 hval0
  refine (walk b0 n0 cap0 c0 A0 B0 W hrow0).mono fun e W' ⟨he, bel⟩ => ?_
  subst he
  exact ⟨_, rfl, _, _, _, [], _, [], hW', trodAll_mk1 (shut_bool Try.underlying4 _), (trodAll_cons_mk (Below.trod laidOut (by kernel_rfl) (of_decide_eq_true (by kernel_rfl)) k0 bel lt0) trodAll_mk0), rfl, bel.frame _, fun h => by cases h⟩

theorem over : Rows.codeDepthsRow.holds Try.pinned (OpenSpec.ofChange Rows.codeDepthsSpec) :=
  OpenClaim.holds_of_wide 6 Try.f6 rfl rfl rfl rfl rfl rfl rfl ⟨rfl, rfl, rfl, rfl, rfl⟩ rfl rfl rfl rfl rfl (by kernel_rfl) Try.func6 (by kernel_rfl)
    (of_decide_eq_true (by kernel_rfl)) (by unfold Func.isWrapper; first | (rw [if_pos (by decide +kernel)]; kernel_rfl) | (rw [if_neg (by decide +kernel)]; exact ⟨rfl, rfl⟩))
    (fun os started H enc _ => lifted os started H enc)

/-- the statement -/
theorem proved : Rows.CodeDepthsSaid := over
end Go.Proofs.Yteeljnlepbnhkaa.codeDepths
