/-
  The statement CacheTouches: for every geometry, state and address the law returns true.
  Conditions: none beyond those of the given row.
-/
import Derived.Test.YtmjnakhpekbenaaCacheTouchesE
import Derived.Test.YtmjnakhpekbenaaRows
import Derived.ProofKit
import Derived.OpenShut
import Derived.ShutString
import Derived.ChangeOld
import Derived.Lib.SmallJoins
set_option linter.unusedVariables false
set_option linter.unusedSimpArgs false
namespace Go.Proofs.Ytmjnakhpekbenaa.cacheTouches
open Go.ChangeShapes Go.WideShapes Go.ChangeAt Go.RowKit Go.Joins
open Go.ChangeMaps (open_string shut_string)
open Fw Ca

set_option maxRecDepth 20000 in
set_option maxHeartbeats 4000000 in
theorem walk (s y l m : Int) (p : Option Addr) (cp : Nat) (S : List SlI) (a : Int) (w : World) (w0 : (Lit.int .i64 s).wf = true) (w1 : (Lit.int .i64 y).wf = true) (w2 : (Lit.int .i64 l).wf = true) (w3 : (Lit.int .i64 m).wf = true) (hS : StIn w p S) (w5 : (Lit.int .i64 a).wf = true) :
    Calls Try.prog 3 #[.agg #[vI s, vI y, vI l, vI m], .slice p S.length cp, vI a] w fun e w' => e = .returned (.bool true) ∧ Below w.heap.size w w' := by
  refine calls_of Try.func3 rfl (m := 84) rfl [(0, .agg #[vI s, vI y, vI l, vI m]), (1, .slice p S.length cp), (2, vI a)] (Fr_enter [.agg #[vI s, vI y, vI l, vI m], .slice p S.length cp, vI a] 84 (Nat.le_of_ble_eq_true rfl)) ?_
  have hH1 : HP Tr w w [] := HP.refl w
  refine WC.seq fun K2 hK2 => ?_
  refine WC.region ?_
  refine WL.alloc (c := #[vI s, vI y, vI l, vI m]) (T := 23) hH1 3 rfl (by decide) rfl rfl (fun b3 => vP b3 0) (by kernel_rfl) (fun b3 w3 hw3 => ?_)
  have hH4 : HP Tr w w3 [.cel b3 #[vI s, vI y, vI l, vI m] 23] := hw3.2
  have nb3 := hw3.1
  clear hw3
  refine WL.pure (v := .bool false) 6 rfl (Nat.le_of_ble_eq_true rfl) rfl rfl (by kernel_rfl) ?_
  refine WL.nil ?_
  refine WQ.then ?_
  refine hK2 _ _ _ ?_
  refine WC.seq fun K5 hK5 => ?_
  refine WC.region ?_
  refine WL.pure (v := .slice p S.length cp) 17 rfl (Nat.le_of_ble_eq_true rfl) rfl rfl (by kernel_rfl) ?_
  refine WL.call (f := 11) (args := #[.slice p S.length cp]) 18 rfl (Nat.le_of_ble_eq_true rfl) rfl rfl (by kernel_rfl) ?_
  refine (own3_any p S cp _ (hS.below (HP.below hH4))).mono ?_
  rintro e wt ⟨pt, ct, S1, rfl, hX1, hI1, hb⟩
  refine ⟨_, rfl, ?_⟩
  have hH6 : HP Tr w _ [.cel b3 #[vI s, vI y, vI l, vI m] 23] := HP.call hH4 hb
  have hbw1 := HP.below hH6
  have hbox1 : ∀ i9, i9 < 1 → World.rangeAt wt b3 i9 [vI s, vI y, vI l, vI m] := fun i9 h9 => match i9, h9 with | 0, _ => HP.range hH6 0 rfl rfl | n + 1, h9 => absurd h9 (by omega)
  replace hS := hS.below hbw1
  have hBk1 := HP.call (HP.refl (S := Tr) w) hbw1
  have hH7 : HP Tr wt wt [] := HP.refl wt
  refine WL.pure (v := .slice pt S1.length ct) 7 rfl (Nat.le_of_ble_eq_true rfl) rfl rfl (by kernel_rfl) ?_
  refine WL.nil ?_
  refine WQ.then ?_
  refine hK5 _ _ _ ?_
  refine WC.seq fun K8 hK8 => ?_
  refine WC.region ?_
  refine WL.pure (v := .agg #[vI s, vI y, vI l, vI m]) 20 rfl (Nat.le_of_ble_eq_true rfl) rfl rfl (x_loadS (cs := [vI s, vI y, vI l, vI m]) rfl rfl Try.underlying23 rfl sz23 (HP.oldRange hH7 trivial (hbox1 0 (by omega)))) ?_
  refine WL.pure (v := .slice pt S1.length ct) 21 rfl (Nat.le_of_ble_eq_true rfl) rfl rfl (by kernel_rfl) ?_
  refine WL.pure (v := vI a) 22 rfl (Nat.le_of_ble_eq_true rfl) rfl rfl (by kernel_rfl) ?_
  refine WL.call (f := 12) (args := #[.agg #[vI s, vI y, vI l, vI m], .slice pt S1.length ct, vI a]) 23 rfl (Nat.le_of_ble_eq_true rfl) rfl rfl (by kernel_rfl) ?_
  refine (Touch3_any s y l m a pt S1 ct _ (hI1.below (HP.below hH7)) hX1 (smX_in hS)).mono ?_
  rintro e wa (⟨hno, rfl, hb⟩ | ⟨hyes, pa, ca, S2, rfl, hX2, hI2, hb⟩)
  ·
    refine ⟨_, rfl, ?_⟩
    have hH9 : HP Tr wt _ [] := HP.call hH7 hb
    have hbw2 := HP.below hH9
    have hbox2 : ∀ i9, i9 < 1 → World.rangeAt wa b3 i9 [vI s, vI y, vI l, vI m] := fun i9 h9 => HP.oldRange hH9 trivial (hbox1 i9 h9)
    replace hS := hS.below hbw2
    replace hI1 := hI1.below hbw2
    have hBk2 := HP.call hBk1 hbw2
    have hH10 : HP Tr wa wa [] := HP.refl wa
    refine WL.pure (v := .tuple #[.slice none 0 0, .bool false, vI 1]) 19 rfl (Nat.le_of_ble_eq_true rfl) rfl rfl (by kernel_rfl) ?_
    refine WL.pure (v := .slice none 0 0) 24 rfl (Nat.le_of_ble_eq_true rfl) rfl rfl (by kernel_rfl) ?_
    refine WL.pure (v := .bool false) 25 rfl (Nat.le_of_ble_eq_true rfl) rfl rfl (by kernel_rfl) ?_
    refine WL.pure (v := vI 1) 26 rfl (Nat.le_of_ble_eq_true rfl) rfl rfl (by kernel_rfl) ?_
    refine WL.pure (v := .slice none 0 0) 8 rfl (Nat.le_of_ble_eq_true rfl) rfl rfl (by kernel_rfl) ?_
    refine WL.pure (v := .bool false) 9 rfl (Nat.le_of_ble_eq_true rfl) rfl rfl (by kernel_rfl) ?_
    refine WL.pure (v := vI 1) 10 rfl (Nat.le_of_ble_eq_true rfl) rfl rfl (by kernel_rfl) ?_
    refine WL.nil ?_
    refine WQ.then ?_
    refine hK8 _ _ _ ?_
    refine WC.sub (l' := [(0, .agg #[vI s, vI y, vI l, vI m]), (1, .slice p S.length cp), (2, vI a), (3, vP b3 0), (6, .bool false), (7, .slice pt S1.length ct), (8, .slice none 0 0), (9, .bool false), (10, vI 1)]) ⟨rfl, rfl, rfl, rfl, rfl, rfl, rfl, rfl, rfl, trivial⟩ ?_
    refine WC.seq fun K11 hK11 => ?_
    refine WC.region ?_
    refine WL.pure (v := .agg #[vI s, vI y, vI l, vI m]) 28 rfl (Nat.le_of_ble_eq_true rfl) rfl rfl (x_loadS (cs := [vI s, vI y, vI l, vI m]) rfl rfl Try.underlying23 rfl sz23 (HP.oldRange hH10 trivial (hbox2 0 (by omega)))) ?_
    refine WL.pure (v := .slice p S.length cp) 29 rfl (Nat.le_of_ble_eq_true rfl) rfl rfl (by kernel_rfl) ?_
    refine WL.pure (v := vI a) 30 rfl (Nat.le_of_ble_eq_true rfl) rfl rfl (by kernel_rfl) ?_
    refine WL.call (f := 13) (args := #[.agg #[vI s, vI y, vI l, vI m], .slice p S.length cp, vI a]) 31 rfl (Nat.le_of_ble_eq_true rfl) rfl rfl (by kernel_rfl) ?_
    refine (rTouch3_any s y l m a p S cp _ ((hS.below (HP.below hH10))).inn rfl (smX_in hS)).mono ?_
    rintro e wb (⟨-, rfl, hb⟩ | ⟨hyes, -⟩)
    rotate_left
    · rw [hno] at hyes; cases hyes
    refine ⟨_, rfl, ?_⟩
    have hH12 : HP Tr wa _ [] := HP.call hH10 hb
    refine WL.pure (v := .tuple #[.slice none 0 0, .bool false, vI 1]) 27 rfl (Nat.le_of_ble_eq_true rfl) rfl rfl (by kernel_rfl) ?_
    refine WL.pure (v := .slice none 0 0) 32 rfl (Nat.le_of_ble_eq_true rfl) rfl rfl (by kernel_rfl) ?_
    refine WL.pure (v := .bool false) 33 rfl (Nat.le_of_ble_eq_true rfl) rfl rfl (by kernel_rfl) ?_
    refine WL.pure (v := vI 1) 34 rfl (Nat.le_of_ble_eq_true rfl) rfl rfl (by kernel_rfl) ?_
    refine WL.pure (v := .slice none 0 0) 11 rfl (Nat.le_of_ble_eq_true rfl) rfl rfl (by kernel_rfl) ?_
    refine WL.pure (v := .bool false) 12 rfl (Nat.le_of_ble_eq_true rfl) rfl rfl (by kernel_rfl) ?_
    refine WL.pure (v := vI 1) 13 rfl (Nat.le_of_ble_eq_true rfl) rfl rfl (by kernel_rfl) ?_
    refine WL.nil ?_
    refine WQ.then ?_
    refine hK11 _ _ _ ?_
    refine WC.sub (l' := [(0, .agg #[vI s, vI y, vI l, vI m]), (1, .slice p S.length cp), (2, vI a), (3, vP b3 0), (6, .bool false), (7, .slice pt S1.length ct), (8, .slice none 0 0), (9, .bool false), (10, vI 1), (11, .slice none 0 0), (12, .bool false), (13, vI 1)]) ⟨rfl, rfl, rfl, rfl, rfl, rfl, rfl, rfl, rfl, rfl, rfl, rfl, trivial⟩ ?_
    refine WC.seq fun K13 hK13 => ?_
    refine WC.seq fun K14 hK14 => ?_
    refine WC.region ?_
    refine WL.pure (v := vI 1) 35 rfl (Nat.le_of_ble_eq_true rfl) rfl rfl (by kernel_rfl) ?_
    refine WL.pure (v := vI 1) 36 rfl (Nat.le_of_ble_eq_true rfl) rfl rfl (by kernel_rfl) ?_
    refine WL.pure (v := .bool false) 37 rfl (Nat.le_of_ble_eq_true rfl) rfl rfl (x_neq rfl rfl rfl (by decide)) ?_
    refine WL.pure (v := .bool false) 38 rfl (Nat.le_of_ble_eq_true rfl) rfl rfl (by kernel_rfl) ?_
    refine WL.pure (v := .bool false) 39 rfl (Nat.le_of_ble_eq_true rfl) rfl rfl (by kernel_rfl) ?_
    refine WL.pure (v := .bool false) 40 rfl (Nat.le_of_ble_eq_true rfl) rfl rfl (by kernel_rfl) ?_
    refine WL.pure (v := .bool false) 41 rfl (Nat.le_of_ble_eq_true rfl) rfl rfl (x_neqb rfl rfl rfl Try.underlying4 (by simp)) ?_
    refine WL.pure (v := .bool false) 42 rfl (Nat.le_of_ble_eq_true rfl) rfl rfl (by kernel_rfl) ?_
    refine WL.pure (v := .bool false) 43 rfl (Nat.le_of_ble_eq_true rfl) rfl rfl (by kernel_rfl) ?_
    refine WL.pure (v := .slice none 0 0) 44 rfl (Nat.le_of_ble_eq_true rfl) rfl rfl (by kernel_rfl) ?_
    refine WL.pure (v := .slice none 0 0) 45 rfl (Nat.le_of_ble_eq_true rfl) rfl rfl (by kernel_rfl) ?_
    refine WL.call (f := 14) (args := #[.slice none 0 0, .slice none 0 0]) 46 rfl (Nat.le_of_ble_eq_true rfl) rfl rfl (by kernel_rfl) ?_
    refine (same0_any _).mono ?_
    rintro e w15 ⟨rfl, hb16⟩
    refine ⟨_, rfl, ?_⟩
    have hH17 : HP Tr wa _ [] := HP.call hH12 hb16
    refine WL.pure (v := .bool false) 47 rfl (Nat.le_of_ble_eq_true rfl) rfl rfl (by kernel_rfl) ?_
    refine WL.pure (v := .bool false) 48 rfl (Nat.le_of_ble_eq_true rfl) rfl rfl (by kernel_rfl) ?_
    refine WL.pure (v := .bool false) 49 rfl (Nat.le_of_ble_eq_true rfl) rfl rfl (by kernel_rfl) ?_
    refine WL.pure (v := .slice pt S1.length ct) 50 rfl (Nat.le_of_ble_eq_true rfl) rfl rfl (by kernel_rfl) ?_
    refine WL.pure (v := .slice p S.length cp) 51 rfl (Nat.le_of_ble_eq_true rfl) rfl rfl (by kernel_rfl) ?_
    refine WL.call (f := 14) (args := #[.slice pt S1.length ct, .slice p S.length cp]) 52 rfl (Nat.le_of_ble_eq_true rfl) rfl rfl (by kernel_rfl) ?_
    refine (same3_any pt p S1 S ct cp _ (hI1.below (HP.below hH17)) (hS.inn.below (HP.below hH17)) hX1 rfl (smX_in hS)).mono ?_
    rintro e w18 ⟨rfl, hb19⟩
    refine ⟨_, rfl, ?_⟩
    have hH20 : HP Tr wa _ [] := HP.call hH17 hb19
    refine WL.pure (v := .bool false) 53 rfl (Nat.le_of_ble_eq_true rfl) rfl rfl (by kernel_rfl) ?_
    refine WL.pure (v := .bool false) 54 rfl (Nat.le_of_ble_eq_true rfl) rfl rfl (by kernel_rfl) ?_
    refine WL.nil ?_
    refine WQ.then ?_
    refine hK14 _ _ _ ?_
    refine WC.sub (l' := [(0, .agg #[vI s, vI y, vI l, vI m]), (1, .slice p S.length cp), (2, vI a), (3, vP b3 0), (6, .bool false), (7, .slice pt S1.length ct), (8, .slice none 0 0), (9, .bool false), (10, vI 1), (11, .slice none 0 0), (12, .bool false), (13, vI 1), (54, .bool false)]) ⟨rfl, rfl, rfl, rfl, rfl, rfl, rfl, rfl, rfl, rfl, rfl, rfl, rfl, trivial⟩ ?_
    refine WC.no rfl ?_
    refine WC.skip ?_
    refine WQ.then ?_
    refine hK13 _ _ _ ?_
    refine WC.seq fun K21 hK21 => ?_
    refine WC.seq fun K22 hK22 => ?_
    refine WC.region ?_
    refine WL.pure (v := vI 1) 55 rfl (Nat.le_of_ble_eq_true rfl) rfl rfl (by kernel_rfl) ?_
    refine WL.pure (v := .bool false) 56 rfl (Nat.le_of_ble_eq_true rfl) rfl rfl (x_eql rfl rfl rfl (by decide)) ?_
    refine WL.nil ?_
    refine WQ.then ?_
    refine hK22 _ _ _ ?_
    refine WC.no rfl ?_
    refine WC.skip ?_
    refine WQ.then ?_
    refine hK21 _ _ _ ?_
    refine WC.seq fun K23 hK23 => ?_
    refine WC.region ?_
    refine WL.call (f := 16) (args := #[]) 83 rfl (Nat.le_of_ble_eq_true rfl) rfl rfl (by kernel_rfl) ?_
    refine (sane_any _).mono ?_
    rintro e w24 ⟨rfl, hb25⟩
    refine ⟨_, rfl, ?_⟩
    have hH26 : HP Tr wa _ [] := HP.call hH20 hb25
    refine WL.pure (v := .bool true) 6 rfl (Nat.le_of_ble_eq_true rfl) rfl rfl (by kernel_rfl) ?_
    refine WL.nil ?_
    refine WQ.then ?_
    refine hK23 _ _ _ ?_
    refine WC.ret ?_
    refine WQ.ret1 6 rfl rfl ?_
    exact ⟨rfl, HP.below (HP.call hBk2 (HP.below hH26))⟩
  ·
    refine ⟨_, rfl, ?_⟩
    have hok := (tOk_iff.1 hyes).1
    have hH27 : HP Tr wt _ [] := HP.call hH7 hb
    have hbw2 := HP.below hH27
    have hbox2 : ∀ i9, i9 < 1 → World.rangeAt wa b3 i9 [vI s, vI y, vI l, vI m] := fun i9 h9 => HP.oldRange hH27 trivial (hbox1 i9 h9)
    replace hS := hS.below hbw2
    replace hI1 := hI1.below hbw2
    have hBk2 := HP.call hBk1 hbw2
    have hH28 : HP Tr wa wa [] := HP.refl wa
    refine WL.pure (v := .tuple #[.slice pa S2.length ca, .bool (decide (hitN s l a (stX S) = 1)), vI 0]) 19 rfl (Nat.le_of_ble_eq_true rfl) rfl rfl (by kernel_rfl) ?_
    refine WL.pure (v := .slice pa S2.length ca) 24 rfl (Nat.le_of_ble_eq_true rfl) rfl rfl (by kernel_rfl) ?_
    refine WL.pure (v := .bool (decide (hitN s l a (stX S) = 1))) 25 rfl (Nat.le_of_ble_eq_true rfl) rfl rfl (by kernel_rfl) ?_
    refine WL.pure (v := vI 0) 26 rfl (Nat.le_of_ble_eq_true rfl) rfl rfl (by kernel_rfl) ?_
    refine WL.pure (v := .slice pa S2.length ca) 8 rfl (Nat.le_of_ble_eq_true rfl) rfl rfl (by kernel_rfl) ?_
    refine WL.pure (v := .bool (decide (hitN s l a (stX S) = 1))) 9 rfl (Nat.le_of_ble_eq_true rfl) rfl rfl (by kernel_rfl) ?_
    refine WL.pure (v := vI 0) 10 rfl (Nat.le_of_ble_eq_true rfl) rfl rfl (by kernel_rfl) ?_
    refine WL.nil ?_
    refine WQ.then ?_
    refine hK8 _ _ _ ?_
    refine WC.sub (l' := [(0, .agg #[vI s, vI y, vI l, vI m]), (1, .slice p S.length cp), (2, vI a), (3, vP b3 0), (6, .bool false), (7, .slice pt S1.length ct), (8, .slice pa S2.length ca), (9, .bool (decide (hitN s l a (stX S) = 1))), (10, vI 0)]) ⟨rfl, rfl, rfl, rfl, rfl, rfl, rfl, rfl, rfl, trivial⟩ ?_
    refine WC.seq fun K29 hK29 => ?_
    refine WC.region ?_
    refine WL.pure (v := .agg #[vI s, vI y, vI l, vI m]) 28 rfl (Nat.le_of_ble_eq_true rfl) rfl rfl (x_loadS (cs := [vI s, vI y, vI l, vI m]) rfl rfl Try.underlying23 rfl sz23 (HP.oldRange hH28 trivial (hbox2 0 (by omega)))) ?_
    refine WL.pure (v := .slice p S.length cp) 29 rfl (Nat.le_of_ble_eq_true rfl) rfl rfl (by kernel_rfl) ?_
    refine WL.pure (v := vI a) 30 rfl (Nat.le_of_ble_eq_true rfl) rfl rfl (by kernel_rfl) ?_
    refine WL.call (f := 13) (args := #[.agg #[vI s, vI y, vI l, vI m], .slice p S.length cp, vI a]) 31 rfl (Nat.le_of_ble_eq_true rfl) rfl rfl (by kernel_rfl) ?_
    refine (rTouch_yes3 s y l m a p S cp _ ((hS.below (HP.below hH28))).inn rfl hyes).mono ?_
    rintro e wb ⟨pb, cb, S3, rfl, hX3, hI3, hb⟩
    refine ⟨_, rfl, ?_⟩
    have hH30 : HP Tr wa _ [] := HP.call hH28 hb
    have hbw3 := HP.below hH30
    have hbox3 : ∀ i9, i9 < 1 → World.rangeAt wb b3 i9 [vI s, vI y, vI l, vI m] := fun i9 h9 => HP.oldRange hH30 trivial (hbox2 i9 h9)
    replace hS := hS.below hbw3
    replace hI1 := hI1.below hbw3
    replace hI2 := hI2.below hbw3
    have hBk3 := HP.call hBk2 hbw3
    have hH31 : HP Tr wb wb [] := HP.refl wb
    refine WL.pure (v := .tuple #[.slice pb S3.length cb, .bool (decide (hitN s l a (stX S) = 1)), vI 0]) 27 rfl (Nat.le_of_ble_eq_true rfl) rfl rfl (by kernel_rfl) ?_
    refine WL.pure (v := .slice pb S3.length cb) 32 rfl (Nat.le_of_ble_eq_true rfl) rfl rfl (by kernel_rfl) ?_
    refine WL.pure (v := .bool (decide (hitN s l a (stX S) = 1))) 33 rfl (Nat.le_of_ble_eq_true rfl) rfl rfl (by kernel_rfl) ?_
    refine WL.pure (v := vI 0) 34 rfl (Nat.le_of_ble_eq_true rfl) rfl rfl (by kernel_rfl) ?_
    refine WL.pure (v := .slice pb S3.length cb) 11 rfl (Nat.le_of_ble_eq_true rfl) rfl rfl (by kernel_rfl) ?_
    refine WL.pure (v := .bool (decide (hitN s l a (stX S) = 1))) 12 rfl (Nat.le_of_ble_eq_true rfl) rfl rfl (by kernel_rfl) ?_
    refine WL.pure (v := vI 0) 13 rfl (Nat.le_of_ble_eq_true rfl) rfl rfl (by kernel_rfl) ?_
    refine WL.nil ?_
    refine WQ.then ?_
    refine hK29 _ _ _ ?_
    refine WC.sub (l' := [(0, .agg #[vI s, vI y, vI l, vI m]), (1, .slice p S.length cp), (2, vI a), (3, vP b3 0), (6, .bool false), (7, .slice pt S1.length ct), (8, .slice pa S2.length ca), (9, .bool (decide (hitN s l a (stX S) = 1))), (10, vI 0), (11, .slice pb S3.length cb), (12, .bool (decide (hitN s l a (stX S) = 1))), (13, vI 0)]) ⟨rfl, rfl, rfl, rfl, rfl, rfl, rfl, rfl, rfl, rfl, rfl, rfl, trivial⟩ ?_
    refine WC.seq fun K32 hK32 => ?_
    refine WC.seq fun K33 hK33 => ?_
    refine WC.region ?_
    refine WL.pure (v := vI 0) 35 rfl (Nat.le_of_ble_eq_true rfl) rfl rfl (by kernel_rfl) ?_
    refine WL.pure (v := vI 0) 36 rfl (Nat.le_of_ble_eq_true rfl) rfl rfl (by kernel_rfl) ?_
    refine WL.pure (v := .bool false) 37 rfl (Nat.le_of_ble_eq_true rfl) rfl rfl (x_neq rfl rfl rfl (by decide)) ?_
    refine WL.pure (v := .bool false) 38 rfl (Nat.le_of_ble_eq_true rfl) rfl rfl (by kernel_rfl) ?_
    refine WL.pure (v := .bool (decide (hitN s l a (stX S) = 1))) 39 rfl (Nat.le_of_ble_eq_true rfl) rfl rfl (by kernel_rfl) ?_
    refine WL.pure (v := .bool (decide (hitN s l a (stX S) = 1))) 40 rfl (Nat.le_of_ble_eq_true rfl) rfl rfl (by kernel_rfl) ?_
    refine WL.pure (v := .bool false) 41 rfl (Nat.le_of_ble_eq_true rfl) rfl rfl (x_neqb rfl rfl rfl Try.underlying4 (by simp)) ?_
    refine WL.pure (v := .bool false) 42 rfl (Nat.le_of_ble_eq_true rfl) rfl rfl (by kernel_rfl) ?_
    refine WL.pure (v := .bool false) 43 rfl (Nat.le_of_ble_eq_true rfl) rfl rfl (by kernel_rfl) ?_
    refine WL.pure (v := .slice pa S2.length ca) 44 rfl (Nat.le_of_ble_eq_true rfl) rfl rfl (by kernel_rfl) ?_
    refine WL.pure (v := .slice pb S3.length cb) 45 rfl (Nat.le_of_ble_eq_true rfl) rfl rfl (by kernel_rfl) ?_
    refine WL.call (f := 14) (args := #[.slice pa S2.length ca, .slice pb S3.length cb]) 46 rfl (Nat.le_of_ble_eq_true rfl) rfl rfl (by kernel_rfl) ?_
    refine (same3_any pa pb S2 S3 ca cb _ (hI2.below (HP.below hH31)) (hI3.below (HP.below hH31)) hX2 hX3 (smX_ok (okSt_stp hok (tOk_iff.1 hyes).2))).mono ?_
    rintro e w34 ⟨rfl, hb35⟩
    refine ⟨_, rfl, ?_⟩
    have hH36 : HP Tr wb _ [] := HP.call hH31 hb35
    refine WL.pure (v := .bool false) 47 rfl (Nat.le_of_ble_eq_true rfl) rfl rfl (by kernel_rfl) ?_
    refine WL.pure (v := .bool false) 48 rfl (Nat.le_of_ble_eq_true rfl) rfl rfl (by kernel_rfl) ?_
    refine WL.pure (v := .bool false) 49 rfl (Nat.le_of_ble_eq_true rfl) rfl rfl (by kernel_rfl) ?_
    refine WL.pure (v := .slice pt S1.length ct) 50 rfl (Nat.le_of_ble_eq_true rfl) rfl rfl (by kernel_rfl) ?_
    refine WL.pure (v := .slice p S.length cp) 51 rfl (Nat.le_of_ble_eq_true rfl) rfl rfl (by kernel_rfl) ?_
    refine WL.call (f := 14) (args := #[.slice pt S1.length ct, .slice p S.length cp]) 52 rfl (Nat.le_of_ble_eq_true rfl) rfl rfl (by kernel_rfl) ?_
    refine (same3_any pt p S1 S ct cp _ (hI1.below (HP.below hH36)) (hS.inn.below (HP.below hH36)) hX1 rfl (smX_in hS)).mono ?_
    rintro e w37 ⟨rfl, hb38⟩
    refine ⟨_, rfl, ?_⟩
    have hH39 : HP Tr wb _ [] := HP.call hH36 hb38
    refine WL.pure (v := .bool false) 53 rfl (Nat.le_of_ble_eq_true rfl) rfl rfl (by kernel_rfl) ?_
    refine WL.pure (v := .bool false) 54 rfl (Nat.le_of_ble_eq_true rfl) rfl rfl (by kernel_rfl) ?_
    refine WL.nil ?_
    refine WQ.then ?_
    refine hK33 _ _ _ ?_
    refine WC.sub (l' := [(0, .agg #[vI s, vI y, vI l, vI m]), (1, .slice p S.length cp), (2, vI a), (3, vP b3 0), (6, .bool false), (7, .slice pt S1.length ct), (8, .slice pa S2.length ca), (9, .bool (decide (hitN s l a (stX S) = 1))), (10, vI 0), (11, .slice pb S3.length cb), (12, .bool (decide (hitN s l a (stX S) = 1))), (13, vI 0), (54, .bool false)]) ⟨rfl, rfl, rfl, rfl, rfl, rfl, rfl, rfl, rfl, rfl, rfl, rfl, rfl, trivial⟩ ?_
    refine WC.no rfl ?_
    refine WC.skip ?_
    refine WQ.then ?_
    refine hK32 _ _ _ ?_
    refine WC.seq fun K40 hK40 => ?_
    refine WC.seq fun K41 hK41 => ?_
    refine WC.region ?_
    refine WL.pure (v := vI 0) 55 rfl (Nat.le_of_ble_eq_true rfl) rfl rfl (by kernel_rfl) ?_
    refine WL.pure (v := .bool true) 56 rfl (Nat.le_of_ble_eq_true rfl) rfl rfl (x_eql rfl rfl rfl (by decide)) ?_
    refine WL.nil ?_
    refine WQ.then ?_
    refine hK41 _ _ _ ?_
    refine WC.yes rfl ?_
    refine WC.seq fun K42 hK42 => ?_
    refine WC.region ?_
    refine WL.pure (v := .agg #[vI s, vI y, vI l, vI m]) 58 rfl (Nat.le_of_ble_eq_true rfl) rfl rfl (x_loadS (cs := [vI s, vI y, vI l, vI m]) rfl rfl Try.underlying23 rfl sz23 (HP.oldRange hH39 trivial (hbox3 0 (by omega)))) ?_
    refine WL.pure (v := .slice pa S2.length ca) 59 rfl (Nat.le_of_ble_eq_true rfl) rfl rfl (by kernel_rfl) ?_
    refine WL.pure (v := vI a) 60 rfl (Nat.le_of_ble_eq_true rfl) rfl rfl (by kernel_rfl) ?_
    refine WL.call (f := 12) (args := #[.agg #[vI s, vI y, vI l, vI m], .slice pa S2.length ca, vI a]) 61 rfl (Nat.le_of_ble_eq_true rfl) rfl rfl (by kernel_rfl) ?_
    refine (Touch_again s y l m a pa S2 ca _ (hI2.below (HP.below hH39)) hX2 hyes).mono ?_
    rintro e wc ⟨pc, cc, S4, rfl, hX4, hI4, hb⟩
    refine ⟨_, rfl, ?_⟩
    have hH43 : HP Tr wb _ [] := HP.call hH39 hb
    have hbw4 := HP.below hH43
    have hbox4 : ∀ i9, i9 < 1 → World.rangeAt wc b3 i9 [vI s, vI y, vI l, vI m] := fun i9 h9 => HP.oldRange hH43 trivial (hbox3 i9 h9)
    replace hS := hS.below hbw4
    replace hI1 := hI1.below hbw4
    replace hI2 := hI2.below hbw4
    replace hI3 := hI3.below hbw4
    have hBk4 := HP.call hBk3 hbw4
    have hH44 : HP Tr wc wc [] := HP.refl wc
    refine WL.pure (v := .tuple #[.slice pc S4.length cc, .bool true, vI 0]) 57 rfl (Nat.le_of_ble_eq_true rfl) rfl rfl (by kernel_rfl) ?_
    refine WL.pure (v := .slice pc S4.length cc) 62 rfl (Nat.le_of_ble_eq_true rfl) rfl rfl (by kernel_rfl) ?_
    refine WL.pure (v := .bool true) 63 rfl (Nat.le_of_ble_eq_true rfl) rfl rfl (by kernel_rfl) ?_
    refine WL.pure (v := vI 0) 64 rfl (Nat.le_of_ble_eq_true rfl) rfl rfl (by kernel_rfl) ?_
    refine WL.pure (v := .slice pc S4.length cc) 14 rfl (Nat.le_of_ble_eq_true rfl) rfl rfl (by kernel_rfl) ?_
    refine WL.pure (v := .bool true) 15 rfl (Nat.le_of_ble_eq_true rfl) rfl rfl (by kernel_rfl) ?_
    refine WL.pure (v := vI 0) 16 rfl (Nat.le_of_ble_eq_true rfl) rfl rfl (by kernel_rfl) ?_
    refine WL.nil ?_
    refine WQ.then ?_
    refine hK42 _ _ _ ?_
    refine WC.sub (l' := [(0, .agg #[vI s, vI y, vI l, vI m]), (1, .slice p S.length cp), (2, vI a), (3, vP b3 0), (6, .bool false), (7, .slice pt S1.length ct), (8, .slice pa S2.length ca), (9, .bool (decide (hitN s l a (stX S) = 1))), (10, vI 0), (11, .slice pb S3.length cb), (12, .bool (decide (hitN s l a (stX S) = 1))), (13, vI 0), (14, .slice pc S4.length cc), (15, .bool true), (16, vI 0), (54, .bool false), (56, .bool true)]) ⟨rfl, rfl, rfl, rfl, rfl, rfl, rfl, rfl, rfl, rfl, rfl, rfl, rfl, rfl, rfl, rfl, rfl, trivial⟩ ?_
    refine WC.seq fun K45 hK45 => ?_
    refine WC.region ?_
    refine WL.pure (v := vI 0) 65 rfl (Nat.le_of_ble_eq_true rfl) rfl rfl (by kernel_rfl) ?_
    refine WL.pure (v := .bool false) 66 rfl (Nat.le_of_ble_eq_true rfl) rfl rfl (x_neq rfl rfl rfl (by decide)) ?_
    refine WL.pure (v := .bool false) 67 rfl (Nat.le_of_ble_eq_true rfl) rfl rfl (by kernel_rfl) ?_
    refine WL.pure (v := .bool true) 68 rfl (Nat.le_of_ble_eq_true rfl) rfl rfl (by kernel_rfl) ?_
    refine WL.pure (v := .bool false) 69 rfl (Nat.le_of_ble_eq_true rfl) rfl rfl (by kernel_rfl) ?_
    refine WL.pure (v := .bool false) 70 rfl (Nat.le_of_ble_eq_true rfl) rfl rfl (by kernel_rfl) ?_
    refine WL.pure (v := .bool false) 71 rfl (Nat.le_of_ble_eq_true rfl) rfl rfl (by kernel_rfl) ?_
    refine WL.pure (v := .slice pc S4.length cc) 72 rfl (Nat.le_of_ble_eq_true rfl) rfl rfl (by kernel_rfl) ?_
    refine WL.pure (v := .slice pa S2.length ca) 73 rfl (Nat.le_of_ble_eq_true rfl) rfl rfl (by kernel_rfl) ?_
    refine WL.call (f := 14) (args := #[.slice pc S4.length cc, .slice pa S2.length ca]) 74 rfl (Nat.le_of_ble_eq_true rfl) rfl rfl (by kernel_rfl) ?_
    refine (same3_any pc pa S4 S2 cc ca _ (hI4.below (HP.below hH44)) (hI2.below (HP.below hH44)) hX4 hX2 (smX_ok (okSt_stp hok (tOk_iff.1 hyes).2))).mono ?_
    rintro e w46 ⟨rfl, hb47⟩
    refine ⟨_, rfl, ?_⟩
    have hH48 : HP Tr wc _ [] := HP.call hH44 hb47
    refine WL.pure (v := .bool false) 75 rfl (Nat.le_of_ble_eq_true rfl) rfl rfl (by kernel_rfl) ?_
    refine WL.pure (v := .bool false) 76 rfl (Nat.le_of_ble_eq_true rfl) rfl rfl (by kernel_rfl) ?_
    refine WL.pure (v := .bool false) 77 rfl (Nat.le_of_ble_eq_true rfl) rfl rfl (by kernel_rfl) ?_
    refine WL.pure (v := .agg #[vI s, vI y, vI l, vI m]) 78 rfl (Nat.le_of_ble_eq_true rfl) rfl rfl (x_loadS (cs := [vI s, vI y, vI l, vI m]) rfl rfl Try.underlying23 rfl sz23 (HP.oldRange hH48 trivial (hbox4 0 (by omega)))) ?_
    refine WL.pure (v := .slice pa S2.length ca) 79 rfl (Nat.le_of_ble_eq_true rfl) rfl rfl (by kernel_rfl) ?_
    refine WL.call (f := 15) (args := #[.agg #[vI s, vI y, vI l, vI m], .slice pa S2.length ca]) 80 rfl (Nat.le_of_ble_eq_true rfl) rfl rfl (by kernel_rfl) ?_
    refine (VSt_at (okSt_stp hok (tOk_iff.1 hyes).2) pa S2 ca _ (hI2.below (HP.below hH48)) hX2 (smX_ok (okSt_stp hok (tOk_iff.1 hyes).2))).mono ?_
    rintro e w49 ⟨rfl, hb50⟩
    refine ⟨_, rfl, ?_⟩
    have hH51 : HP Tr wc _ [] := HP.call hH48 hb50
    refine WL.pure (v := .bool false) 81 rfl (Nat.le_of_ble_eq_true rfl) rfl rfl (by kernel_rfl) ?_
    refine WL.pure (v := .bool false) 82 rfl (Nat.le_of_ble_eq_true rfl) rfl rfl (by kernel_rfl) ?_
    refine WL.nil ?_
    refine WQ.then ?_
    refine hK45 _ _ _ ?_
    refine WC.sub (l' := [(0, .agg #[vI s, vI y, vI l, vI m]), (1, .slice p S.length cp), (2, vI a), (3, vP b3 0), (6, .bool false), (7, .slice pt S1.length ct), (8, .slice pa S2.length ca), (9, .bool (decide (hitN s l a (stX S) = 1))), (10, vI 0), (11, .slice pb S3.length cb), (12, .bool (decide (hitN s l a (stX S) = 1))), (13, vI 0), (14, .slice pc S4.length cc), (15, .bool true), (16, vI 0), (54, .bool false), (56, .bool true), (82, .bool false)]) ⟨rfl, rfl, rfl, rfl, rfl, rfl, rfl, rfl, rfl, rfl, rfl, rfl, rfl, rfl, rfl, rfl, rfl, rfl, trivial⟩ ?_
    refine WC.no rfl ?_
    refine WC.skip ?_
    refine WQ.then ?_
    refine hK40 _ _ _ ?_
    refine WC.seq fun K52 hK52 => ?_
    refine WC.region ?_
    refine WL.call (f := 16) (args := #[]) 83 rfl (Nat.le_of_ble_eq_true rfl) rfl rfl (by kernel_rfl) ?_
    refine (sane_any _).mono ?_
    rintro e w53 ⟨rfl, hb54⟩
    refine ⟨_, rfl, ?_⟩
    have hH55 : HP Tr wc _ [] := HP.call hH51 hb54
    refine WL.pure (v := .bool true) 6 rfl (Nat.le_of_ble_eq_true rfl) rfl rfl (by kernel_rfl) ?_
    refine WL.nil ?_
    refine WQ.then ?_
    refine hK52 _ _ _ ?_
    refine WC.ret ?_
    refine WQ.ret1 6 rfl rfl ?_
    exact ⟨rfl, HP.below (HP.call hBk4 (HP.below hH55))⟩

theorem own : ownKnob Try.prog.godebug = none := by kernel_rfl
theorem laidOut : laidOutB Try.prog = true := by kernel_rfl
theorem cells23 : Try.prog.cellsOf 23 = 4 := by kernel_rfl

set_option maxRecDepth 100000 in
theorem lifted (os : Os) (started : os.Started) (H : Type) (enc : TypeId × Value → H) :
    ReturnsInHanded {} Try.checked os 3 .any (Rows.cacheTouchesSpec.pre6 enc Try.prog Try.f3 Rows.cacheTouchesRow.domain false) (Rows.cacheTouchesSpec.post enc Try.prog Try.f3 false true false false) := by
  refine returnsInHanded_of_change_sized (C := Try.checked) own started (by kernel_rfl) Try.func3
    (ChangeSpec.witness6 (enc := enc) (C := Try.checked) false ⟨#[], #[.agg #[.int .i64 0, .int .i64 0, .int .i64 0, .int .i64 0], .slice none 0 0, .int .i64 0], []⟩ 8 (by kernel_rfl) (by kernel_rfl) (by kernel_rfl) (by kernel_rfl)) ?_
  intro W base args ds gs before hval0 hW hcnd hsz0 _
  have hval : ∀ (j : Nat) t v, Try.f3.params[j]? = some t → args[j]? = some v → Value.okWide Try.prog W .any base t v := hval0
  have hW' := hW
  obtain ⟨p, q, hA0, hV, rfl, hfz, hnd⟩ := hW
  have hA : DataW.TrodAll enc Try.prog W 0 (fun _ => true) true Try.f3.params.toList args.toList ds p := hA0
  have hsz : (DataW.weightsEach Try.prog (Try.f3.params.toList ++ Rows.cacheTouchesSpec.plain.varTypes Try.prog) (ds ++ gs)).all (· ≤ reachBytes) = true := hsz0
  clear hsz0
  rw [Try.params3] at hA hval hsz
  obtain ⟨v0, vs0, d0, ds0, p0, q0, hargs, rfl, rfl, h0, r0⟩ := trodAll_cons hA
  obtain ⟨v1, vs1, d1, ds1, p1, q1, rfl, rfl, rfl, h1, r1⟩ := trodAll_cons r0
  obtain ⟨v2, vs2, d2, ds2, p2, q2, rfl, rfl, rfl, h2, r2⟩ := trodAll_cons r1
  obtain ⟨rfl, rfl, rfl⟩ := trodAll_nil r2
  obtain rfl : args = #[v0, v1, v2] := by cases args; simp_all
  obtain ⟨rfl, rfl⟩ := trodVars_none hV
  have k0 := h0
  have lt0 : ∀ x ∈ p0, x.block < W.heap.size := by obtain ⟨m, hm⟩ := k0; exact DataW.trod_lt m _ _ _ hm
  obtain ⟨c0_0, c0_1, c0_2, c0_3, y0_0, y0_1, y0_2, y0_3, m0, rfl, hd0, hp0, hy0_0, hy0_1, hy0_2, hy0_3⟩ := open_agg4 Try.underlying23 (by kernel_rfl) cells23 (hval 0 23 v0 rfl rfl) h0
  obtain ⟨a0_0, e0_0, -, w0_0⟩ := DataW.trod_int Try.underlying3 hy0_0
  simp at e0_0
  subst e0_0
  obtain ⟨a0_1, e0_1, -, w0_1⟩ := DataW.trod_int Try.underlying3 hy0_1
  simp at e0_1
  subst e0_1
  obtain ⟨a0_2, e0_2, -, w0_2⟩ := DataW.trod_int Try.underlying3 hy0_2
  simp at e0_2
  subst e0_2
  obtain ⟨a0_3, e0_3, -, w0_3⟩ := DataW.trod_int Try.underlying3 hy0_3
  simp at e0_3
  subst e0_3
  clear hd0 hp0
  have k1 := h1
  have lt1 : ∀ x ∈ p1, x.block < W.heap.size := by obtain ⟨m, hm⟩ := k1; exact DataW.trod_lt m _ _ _ hm
  obtain ⟨b1, n1, cap1, rfl⟩ := okWide_slice Try.underlying24 (hval 1 24 v1 rfl rfl)
  obtain ⟨S1, rfl, hS1⟩ := rowsS h1 (fun el sp he => ⟨sized_slice hsz (j := 1) (t := 24) rfl (by rw [he]; rfl) Try.underlying24, fun e1 sp1 hx => sized_inner hsz (j := 1) (t := 24) rfl (by rw [he]; rfl) Try.underlying24 Try.underlying33 hx⟩)
  obtain ⟨a2, rfl, rfl, rfl, w2⟩ := open_int Try.underlying3 (hval 2 3 v2 rfl rfl) h2
  clear hA0 hval0
  refine (walk a0_0 a0_1 a0_2 a0_3 b1 cap1 S1 a2 W w0_0 w0_1 w0_2 w0_3 hS1 w2).mono fun e W' ⟨he, bel⟩ => ?_
  subst he
  exact ⟨_, rfl, _, _, _, [], _, [], hW', trodAll_mk1 (shut_bool Try.underlying4 _), (trodAll_cons_mk (Below.trod laidOut (by kernel_rfl) (of_decide_eq_true (by kernel_rfl)) k0 bel lt0) (trodAll_cons_mk (Below.trod laidOut (by kernel_rfl) (of_decide_eq_true (by kernel_rfl)) k1 bel lt1) (trodAll_cons_mk (shut_int Try.underlying3 w2) trodAll_mk0))), rfl, bel.frame _, fun h => by cases h⟩

theorem over : Rows.cacheTouchesRow.holds Try.pinned (OpenSpec.ofChange Rows.cacheTouchesSpec) :=
  OpenClaim.holds_of_wide 3 Try.f3 rfl rfl rfl rfl rfl rfl rfl ⟨rfl, rfl, rfl, rfl, rfl⟩ rfl rfl rfl rfl rfl (by kernel_rfl) Try.func3 (by kernel_rfl)
    (of_decide_eq_true (by kernel_rfl)) (by unfold Func.isWrapper; first | (rw [if_pos (by decide +kernel)]; kernel_rfl) | (rw [if_neg (by decide +kernel)]; exact ⟨rfl, rfl⟩))
    (fun os started H enc _ => lifted os started H enc)

/-- the statement -/
theorem proved : Rows.CacheTouchesSaid := over
end Go.Proofs.Ytmjnakhpekbenaa.cacheTouches
