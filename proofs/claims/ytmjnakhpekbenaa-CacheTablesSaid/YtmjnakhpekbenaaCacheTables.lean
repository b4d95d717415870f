/-
  The statement CacheTables: for every tables and address the law returns true.
  Conditions: none beyond those of the given row.
-/
import Derived.Test.YtmjnakhpekbenaaCacheTablesE
import Derived.Test.YtmjnakhpekbenaaRows
import Derived.ProofKit
import Derived.OpenShut
import Derived.ShutString
import Derived.ChangeOld
import Derived.Lib.SmallJoins
set_option linter.unusedVariables false
set_option linter.unusedSimpArgs false
namespace Go.Proofs.Ytmjnakhpekbenaa.cacheTables
open Go.ChangeShapes Go.WideShapes Go.ChangeAt Go.RowKit Go.Joins
open Go.ChangeMaps (open_string shut_string)
open Fw Ca

set_option maxRecDepth 20000 in
set_option maxHeartbeats 4000000 in
theorem walk (s y l m : Int) (p : Option Addr) (cp : Nat) (t : List T2) (p2 : Option Addr) (cp2 : Nat) (u : List T2) (a : Int) (w : World) (w0 : (Lit.int .i64 s).wf = true) (w1 : (Lit.int .i64 y).wf = true) (w2 : (Lit.int .i64 l).wf = true) (w3 : (Lit.int .i64 m).wf = true) (hT : TbIn w p t) (hU : TbIn w p2 u) (w7 : (Lit.int .i64 a).wf = true) :
    Calls Try.prog 9 #[.agg #[vI s, vI y, vI l, vI m], .slice p t.length cp, .slice p2 u.length cp2, vI a] w fun e w' => e = .returned (.bool true) ∧ Below w.heap.size w w' := by
  refine calls_of Try.func9 rfl (m := 114) rfl [(0, .agg #[vI s, vI y, vI l, vI m]), (1, .slice p t.length cp), (2, .slice p2 u.length cp2), (3, vI a)] (Fr_enter [.agg #[vI s, vI y, vI l, vI m], .slice p t.length cp, .slice p2 u.length cp2, vI a] 114 (Nat.le_of_ble_eq_true rfl)) ?_
  have hH1 : HP Tr w w [] := HP.refl w
  refine WC.seq fun K2 hK2 => WC.region ?_
  refine WL.alloc (c := #[vI s, vI y, vI l, vI m]) (T := 23) hH1 4 rfl (by decide) rfl rfl (fun b4 => vP b4 0) (by kernel_rfl) (fun b4 w3 hw3 => ?_)
  have hH4 : HP Tr w w3 [.cel b4 #[vI s, vI y, vI l, vI m] 23] := hw3.2
  have nb4 := hw3.1
  clear hw3
  refine WL.z (v := .bool false) 8 ?_
  refine WL.nil (WQ.then (hK2 _ _ _ (WC.seq fun K5 hK5 => ?_)))
  rcases Bool.eq_false_or_eq_true (taC s y l m a t) with h1 | h1
  ·
    have hv1 := (ta_VT 0 h1).len
    have hv2 := (ta_VT 1 h1).len
    refine WC.region ?_
    refine WL.y (v := .agg #[vI s, vI y, vI l, vI m]) 18 (x_loadS (cs := [vI s, vI y, vI l, vI m]) rfl rfl Try.underlying23 rfl sz23 (HP.range hH4 0 rfl rfl)) ?_
    refine WL.z (v := .slice p t.length cp) 19 ?_
    refine WL.z (v := vI a) 20 ?_
    refine WL.call (f := 30) (args := #[.agg #[vI s, vI y, vI l, vI m], .slice p t.length cp, vI a]) 21 rfl (Nat.le_of_ble_eq_true rfl) rfl rfl (by kernel_rfl) ?_
    refine (Ta_yes (TouchMust_any p t cp s y l m a _ (hT.inn.below (HP.below hH4)) (tb_len hT)) h1).mono ?_
    rintro e w6 ⟨q1, c1, rfl, hb7⟩
    refine ⟨_, rfl, ?_⟩
    have hH8 : HP Tr w _ [.cel b4 #[vI s, vI y, vI l, vI m] 23, rowT q1 (tcH s y (a / l) 0 t).length c1 (tcH s y (a / l) 0 t)] := HP.trans hH4 hb7
    refine WL.z (v := .tuple #[.slice q1 ((tcH s y (a / l) 0 t).length) c1, vI 0]) 17 ?_
    refine WL.z (v := .slice q1 ((tcH s y (a / l) 0 t).length) c1) 22 ?_
    refine WL.z (v := vI 0) 23 ?_
    refine WL.z (v := .slice q1 ((tcH s y (a / l) 0 t).length) c1) 9 ?_
    refine WL.z (v := vI 0) 10 ?_
    refine WL.nil (WQ.then (hK5 _ _ _ ?_))
    refine WC.sub (l' := [(0, .agg #[vI s, vI y, vI l, vI m]), (1, .slice p t.length cp), (2, .slice p2 u.length cp2), (3, vI a), (4, vP b4 0), (8, .bool false), (9, .slice q1 ((tcH s y (a / l) 0 t).length) c1), (10, vI 0)]) ⟨rfl, rfl, rfl, rfl, rfl, rfl, rfl, rfl, trivial⟩ ?_
    refine WC.seq fun K9 hK9 => WC.region ?_
    refine WL.y (v := .agg #[vI s, vI y, vI l, vI m]) 25 (x_loadS (cs := [vI s, vI y, vI l, vI m]) rfl rfl Try.underlying23 rfl sz23 (HP.range hH8 0 rfl rfl)) ?_
    refine WL.z (v := .slice p t.length cp) 26 ?_
    refine WL.z (v := vI a) 27 ?_
    refine WL.call (f := 31) (args := #[.agg #[vI s, vI y, vI l, vI m], .slice p t.length cp, vI a]) 28 rfl (Nat.le_of_ble_eq_true rfl) rfl rfl (by kernel_rfl) ?_
    refine (Ta_yes (rTouchMust_any p t cp s y l m a _ (hT.inn.below (HP.below hH8)) (tb_len hT)) h1).mono ?_
    rintro e w10 ⟨q2, c2, rfl, hb11⟩
    refine ⟨_, rfl, ?_⟩
    have hH12 : HP Tr w _ [.cel b4 #[vI s, vI y, vI l, vI m] 23, rowT q1 (tcH s y (a / l) 0 t).length c1 (tcH s y (a / l) 0 t), rowT q2 (tcH s y (a / l) 0 t).length c2 (tcH s y (a / l) 0 t)] := HP.trans hH8 hb11
    refine WL.z (v := .tuple #[.slice q2 ((tcH s y (a / l) 0 t).length) c2, vI 0]) 24 ?_
    refine WL.z (v := .slice q2 ((tcH s y (a / l) 0 t).length) c2) 29 ?_
    refine WL.z (v := vI 0) 30 ?_
    refine WL.z (v := .slice q2 ((tcH s y (a / l) 0 t).length) c2) 11 ?_
    refine WL.z (v := vI 0) 12 ?_
    refine WL.nil (WQ.then (hK9 _ _ _ ?_))
    refine WC.sub (l' := [(0, .agg #[vI s, vI y, vI l, vI m]), (1, .slice p t.length cp), (2, .slice p2 u.length cp2), (3, vI a), (4, vP b4 0), (8, .bool false), (9, .slice q1 ((tcH s y (a / l) 0 t).length) c1), (10, vI 0), (11, .slice q2 ((tcH s y (a / l) 0 t).length) c2), (12, vI 0)]) ⟨rfl, rfl, rfl, rfl, rfl, rfl, rfl, rfl, rfl, rfl, trivial⟩ ?_
    refine WC.seq fun K13 hK13 => WC.region ?_
    refine WL.y (v := .agg #[vI s, vI y, vI l, vI m]) 32 (x_loadS (cs := [vI s, vI y, vI l, vI m]) rfl rfl Try.underlying23 rfl sz23 (HP.range hH12 0 rfl rfl)) ?_
    refine WL.z (v := .slice p t.length cp) 33 ?_
    refine WL.z (v := vI a) 34 ?_
    refine WL.call (f := 32) (args := #[.agg #[vI s, vI y, vI l, vI m], .slice p t.length cp, vI a]) 35 rfl (Nat.le_of_ble_eq_true rfl) rfl rfl (by kernel_rfl) ?_
    refine (Ta_yes (TouchMay_any p t cp s y l m a _ (hT.inn.below (HP.below hH12)) (tb_len hT)) h1).mono ?_
    rintro e w14 ⟨q3, c3, rfl, hb15⟩
    refine ⟨_, rfl, ?_⟩
    have hH16 : HP Tr w _ [.cel b4 #[vI s, vI y, vI l, vI m] 23, rowT q1 (tcH s y (a / l) 0 t).length c1 (tcH s y (a / l) 0 t), rowT q2 (tcH s y (a / l) 0 t).length c2 (tcH s y (a / l) 0 t), rowT q3 (tcH s y (a / l) 1 t).length c3 (tcH s y (a / l) 1 t)] := HP.trans hH12 hb15
    refine WL.z (v := .tuple #[.slice q3 ((tcH s y (a / l) 1 t).length) c3, vI 0]) 31 ?_
    refine WL.z (v := .slice q3 ((tcH s y (a / l) 1 t).length) c3) 36 ?_
    refine WL.z (v := vI 0) 37 ?_
    refine WL.z (v := .slice q3 ((tcH s y (a / l) 1 t).length) c3) 13 ?_
    refine WL.z (v := vI 0) 14 ?_
    refine WL.nil (WQ.then (hK13 _ _ _ ?_))
    refine WC.sub (l' := [(0, .agg #[vI s, vI y, vI l, vI m]), (1, .slice p t.length cp), (2, .slice p2 u.length cp2), (3, vI a), (4, vP b4 0), (8, .bool false), (9, .slice q1 ((tcH s y (a / l) 0 t).length) c1), (10, vI 0), (11, .slice q2 ((tcH s y (a / l) 0 t).length) c2), (12, vI 0), (13, .slice q3 ((tcH s y (a / l) 1 t).length) c3), (14, vI 0)]) ⟨rfl, rfl, rfl, rfl, rfl, rfl, rfl, rfl, rfl, rfl, rfl, rfl, trivial⟩ ?_
    refine WC.seq fun K17 hK17 => WC.region ?_
    refine WL.y (v := .agg #[vI s, vI y, vI l, vI m]) 39 (x_loadS (cs := [vI s, vI y, vI l, vI m]) rfl rfl Try.underlying23 rfl sz23 (HP.range hH16 0 rfl rfl)) ?_
    refine WL.z (v := .slice p t.length cp) 40 ?_
    refine WL.z (v := vI a) 41 ?_
    refine WL.call (f := 33) (args := #[.agg #[vI s, vI y, vI l, vI m], .slice p t.length cp, vI a]) 42 rfl (Nat.le_of_ble_eq_true rfl) rfl rfl (by kernel_rfl) ?_
    refine (Ta_yes (rTouchMay_any p t cp s y l m a _ (hT.inn.below (HP.below hH16)) (tb_len hT)) h1).mono ?_
    rintro e w18 ⟨q4, c4, rfl, hb19⟩
    refine ⟨_, rfl, ?_⟩
    have hH20 : HP Tr w _ [.cel b4 #[vI s, vI y, vI l, vI m] 23, rowT q1 (tcH s y (a / l) 0 t).length c1 (tcH s y (a / l) 0 t), rowT q2 (tcH s y (a / l) 0 t).length c2 (tcH s y (a / l) 0 t), rowT q3 (tcH s y (a / l) 1 t).length c3 (tcH s y (a / l) 1 t), rowT q4 (tcH s y (a / l) 1 t).length c4 (tcH s y (a / l) 1 t)] := HP.trans hH16 hb19
    refine WL.z (v := .tuple #[.slice q4 ((tcH s y (a / l) 1 t).length) c4, vI 0]) 38 ?_
    refine WL.z (v := .slice q4 ((tcH s y (a / l) 1 t).length) c4) 43 ?_
    refine WL.z (v := vI 0) 44 ?_
    refine WL.z (v := .slice q4 ((tcH s y (a / l) 1 t).length) c4) 15 ?_
    refine WL.z (v := vI 0) 16 ?_
    refine WL.nil (WQ.then (hK17 _ _ _ ?_))
    refine WC.sub (l' := [(0, .agg #[vI s, vI y, vI l, vI m]), (1, .slice p t.length cp), (2, .slice p2 u.length cp2), (3, vI a), (4, vP b4 0), (8, .bool false), (9, .slice q1 ((tcH s y (a / l) 0 t).length) c1), (10, vI 0), (11, .slice q2 ((tcH s y (a / l) 0 t).length) c2), (12, vI 0), (13, .slice q3 ((tcH s y (a / l) 1 t).length) c3), (14, vI 0), (15, .slice q4 ((tcH s y (a / l) 1 t).length) c4), (16, vI 0)]) ⟨rfl, rfl, rfl, rfl, rfl, rfl, rfl, rfl, rfl, rfl, rfl, rfl, rfl, rfl, trivial⟩ ?_
    refine WC.seq fun K21 hK21 => WC.seq fun K22 hK22 => WC.region ?_
    refine WL.z (v := vI 0) 45 ?_
    refine WL.z (v := vI 0) 46 ?_
    refine WL.y (v := .bool false) 47 (x_neq rfl rfl rfl (by decide)) ?_
    refine WL.z (v := .bool false) 48 ?_
    refine WL.z (v := vI 0) 49 ?_
    refine WL.z (v := vI 0) 50 ?_
    refine WL.y (v := .bool false) 51 (x_neq rfl rfl rfl (by decide)) ?_
    refine WL.z (v := .bool false) 52 ?_
    refine WL.z (v := .bool false) 53 ?_
    refine WL.z (v := .slice q1 ((tcH s y (a / l) 0 t).length) c1) 54 ?_
    refine WL.z (v := .slice q2 ((tcH s y (a / l) 0 t).length) c2) 55 ?_
    refine WL.call (f := 34) (args := #[.slice q1 ((tcH s y (a / l) 0 t).length) c1, .slice q2 ((tcH s y (a / l) 0 t).length) c2]) 56 rfl (Nat.le_of_ble_eq_true rfl) rfl rfl (by kernel_rfl) ?_
    refine (SameTable_any _ _ _ _ _ _ (InT.own (HP.get hH20 1 rfl)) (InT.own (HP.get hH20 2 rfl)) (by omega)).mono ?_
    rintro e w23 ⟨rfl, hb24⟩
    refine ⟨_, rfl, ?_⟩
    have hH25 : HP Tr w _ [.cel b4 #[vI s, vI y, vI l, vI m] 23, rowT q1 (tcH s y (a / l) 0 t).length c1 (tcH s y (a / l) 0 t), rowT q2 (tcH s y (a / l) 0 t).length c2 (tcH s y (a / l) 0 t), rowT q3 (tcH s y (a / l) 1 t).length c3 (tcH s y (a / l) 1 t), rowT q4 (tcH s y (a / l) 1 t).length c4 (tcH s y (a / l) 1 t)] := HP.call hH20 hb24
    refine WL.z (v := .bool false) 57 ?_
    refine WL.z (v := .bool false) 58 ?_
    refine WL.z (v := .bool false) 59 ?_
    refine WL.z (v := .slice q3 ((tcH s y (a / l) 1 t).length) c3) 60 ?_
    refine WL.z (v := .slice q4 ((tcH s y (a / l) 1 t).length) c4) 61 ?_
    refine WL.call (f := 34) (args := #[.slice q3 ((tcH s y (a / l) 1 t).length) c3, .slice q4 ((tcH s y (a / l) 1 t).length) c4]) 62 rfl (Nat.le_of_ble_eq_true rfl) rfl rfl (by kernel_rfl) ?_
    refine (SameTable_any _ _ _ _ _ _ (InT.own (HP.get hH25 3 rfl)) (InT.own (HP.get hH25 4 rfl)) (by omega)).mono ?_
    rintro e w26 ⟨rfl, hb27⟩
    refine ⟨_, rfl, ?_⟩
    have hH28 : HP Tr w _ [.cel b4 #[vI s, vI y, vI l, vI m] 23, rowT q1 (tcH s y (a / l) 0 t).length c1 (tcH s y (a / l) 0 t), rowT q2 (tcH s y (a / l) 0 t).length c2 (tcH s y (a / l) 0 t), rowT q3 (tcH s y (a / l) 1 t).length c3 (tcH s y (a / l) 1 t), rowT q4 (tcH s y (a / l) 1 t).length c4 (tcH s y (a / l) 1 t)] := HP.call hH25 hb27
    refine WL.z (v := .bool false) 63 ?_
    refine WL.z (v := .bool false) 64 ?_
    refine WL.nil (WQ.then (hK22 _ _ _ ?_))
    refine WC.sub (l' := [(0, .agg #[vI s, vI y, vI l, vI m]), (1, .slice p t.length cp), (2, .slice p2 u.length cp2), (3, vI a), (4, vP b4 0), (8, .bool false), (9, .slice q1 ((tcH s y (a / l) 0 t).length) c1), (10, vI 0), (11, .slice q2 ((tcH s y (a / l) 0 t).length) c2), (12, vI 0), (13, .slice q3 ((tcH s y (a / l) 1 t).length) c3), (14, vI 0), (15, .slice q4 ((tcH s y (a / l) 1 t).length) c4), (16, vI 0), (64, .bool false)]) ⟨rfl, rfl, rfl, rfl, rfl, rfl, rfl, rfl, rfl, rfl, rfl, rfl, rfl, rfl, rfl, trivial⟩ ?_
    refine WC.no rfl (WC.skip (WQ.then (hK21 _ _ _ (WC.seq fun K29 hK29 => ?_))))
    rcases Bool.eq_false_or_eq_true (joC s y l m t u) with h2 | h2
    ·
      have hv3 := (jo_VT false h2).len
      have hv4 := (jo_VT true h2).len
      refine WC.region ?_
      refine WL.y (v := .agg #[vI s, vI y, vI l, vI m]) 66 (x_loadS (cs := [vI s, vI y, vI l, vI m]) rfl rfl Try.underlying23 rfl sz23 (HP.range hH28 0 rfl rfl)) ?_
      refine WL.z (v := .slice p t.length cp) 67 ?_
      refine WL.z (v := .slice p2 u.length cp2) 68 ?_
      refine WL.call (f := 35) (args := #[.agg #[vI s, vI y, vI l, vI m], .slice p t.length cp, .slice p2 u.length cp2]) 69 rfl (Nat.le_of_ble_eq_true rfl) rfl rfl (by kernel_rfl) ?_
      refine (Jo_yes (JoinMust_any p p2 t u cp cp2 s y l m _ (hT.inn.below (HP.below hH28)) (hU.inn.below (HP.below hH28)) (tb_len hT) (tb_len hU)) h2).mono ?_
      rintro e w30 ⟨q5, c5, rfl, hb31⟩
      refine ⟨_, rfl, ?_⟩
      have hH32 : HP Tr w _ [.cel b4 #[vI s, vI y, vI l, vI m] 23, rowT q1 (tcH s y (a / l) 0 t).length c1 (tcH s y (a / l) 0 t), rowT q2 (tcH s y (a / l) 0 t).length c2 (tcH s y (a / l) 0 t), rowT q3 (tcH s y (a / l) 1 t).length c3 (tcH s y (a / l) 1 t), rowT q4 (tcH s y (a / l) 1 t).length c4 (tcH s y (a / l) 1 t), rowT q5 (rJ false t u).length c5 (rJ false t u)] := HP.trans hH28 hb31
      refine WL.z (v := .tuple #[.slice q5 ((rJ false t u).length) c5, vI 0]) 65 ?_
      refine WL.z (v := .slice q5 ((rJ false t u).length) c5) 70 ?_
      refine WL.z (v := vI 0) 71 ?_
      refine WL.z (v := .slice q5 ((rJ false t u).length) c5) 9 ?_
      refine WL.z (v := vI 0) 10 ?_
      refine WL.nil (WQ.then (hK29 _ _ _ ?_))
      refine WC.sub (l' := [(0, .agg #[vI s, vI y, vI l, vI m]), (1, .slice p t.length cp), (2, .slice p2 u.length cp2), (3, vI a), (4, vP b4 0), (8, .bool false), (9, .slice q5 ((rJ false t u).length) c5), (10, vI 0), (11, .slice q2 ((tcH s y (a / l) 0 t).length) c2), (12, vI 0), (13, .slice q3 ((tcH s y (a / l) 1 t).length) c3), (14, vI 0), (15, .slice q4 ((tcH s y (a / l) 1 t).length) c4), (16, vI 0), (64, .bool false)]) ⟨rfl, rfl, rfl, rfl, rfl, rfl, rfl, rfl, rfl, rfl, rfl, rfl, rfl, rfl, rfl, trivial⟩ ?_
      refine WC.seq fun K33 hK33 => WC.region ?_
      refine WL.y (v := .agg #[vI s, vI y, vI l, vI m]) 73 (x_loadS (cs := [vI s, vI y, vI l, vI m]) rfl rfl Try.underlying23 rfl sz23 (HP.range hH32 0 rfl rfl)) ?_
      refine WL.z (v := .slice p t.length cp) 74 ?_
      refine WL.z (v := .slice p2 u.length cp2) 75 ?_
      refine WL.call (f := 36) (args := #[.agg #[vI s, vI y, vI l, vI m], .slice p t.length cp, .slice p2 u.length cp2]) 76 rfl (Nat.le_of_ble_eq_true rfl) rfl rfl (by kernel_rfl) ?_
      refine (Jo_yes (rJoinMust_any p p2 t u cp cp2 s y l m _ (hT.inn.below (HP.below hH32)) (hU.inn.below (HP.below hH32)) (tb_len hT) (tb_len hU)) h2).mono ?_
      rintro e w34 ⟨q6, c6, rfl, hb35⟩
      refine ⟨_, rfl, ?_⟩
      have hH36 : HP Tr w _ [.cel b4 #[vI s, vI y, vI l, vI m] 23, rowT q1 (tcH s y (a / l) 0 t).length c1 (tcH s y (a / l) 0 t), rowT q2 (tcH s y (a / l) 0 t).length c2 (tcH s y (a / l) 0 t), rowT q3 (tcH s y (a / l) 1 t).length c3 (tcH s y (a / l) 1 t), rowT q4 (tcH s y (a / l) 1 t).length c4 (tcH s y (a / l) 1 t), rowT q5 (rJ false t u).length c5 (rJ false t u), rowT q6 (rJ false t u).length c6 (rJ false t u)] := HP.trans hH32 hb35
      refine WL.z (v := .tuple #[.slice q6 ((rJ false t u).length) c6, vI 0]) 72 ?_
      refine WL.z (v := .slice q6 ((rJ false t u).length) c6) 77 ?_
      refine WL.z (v := vI 0) 78 ?_
      refine WL.z (v := .slice q6 ((rJ false t u).length) c6) 11 ?_
      refine WL.z (v := vI 0) 12 ?_
      refine WL.nil (WQ.then (hK33 _ _ _ ?_))
      refine WC.sub (l' := [(0, .agg #[vI s, vI y, vI l, vI m]), (1, .slice p t.length cp), (2, .slice p2 u.length cp2), (3, vI a), (4, vP b4 0), (8, .bool false), (9, .slice q5 ((rJ false t u).length) c5), (10, vI 0), (11, .slice q6 ((rJ false t u).length) c6), (12, vI 0), (13, .slice q3 ((tcH s y (a / l) 1 t).length) c3), (14, vI 0), (15, .slice q4 ((tcH s y (a / l) 1 t).length) c4), (16, vI 0), (64, .bool false)]) ⟨rfl, rfl, rfl, rfl, rfl, rfl, rfl, rfl, rfl, rfl, rfl, rfl, rfl, rfl, rfl, trivial⟩ ?_
      refine WC.seq fun K37 hK37 => WC.region ?_
      refine WL.y (v := .agg #[vI s, vI y, vI l, vI m]) 80 (x_loadS (cs := [vI s, vI y, vI l, vI m]) rfl rfl Try.underlying23 rfl sz23 (HP.range hH36 0 rfl rfl)) ?_
      refine WL.z (v := .slice p t.length cp) 81 ?_
      refine WL.z (v := .slice p2 u.length cp2) 82 ?_
      refine WL.call (f := 37) (args := #[.agg #[vI s, vI y, vI l, vI m], .slice p t.length cp, .slice p2 u.length cp2]) 83 rfl (Nat.le_of_ble_eq_true rfl) rfl rfl (by kernel_rfl) ?_
      refine (Jo_yes (JoinMay_any p p2 t u cp cp2 s y l m _ (hT.inn.below (HP.below hH36)) (hU.inn.below (HP.below hH36)) (tb_len hT) (tb_len hU)) h2).mono ?_
      rintro e w38 ⟨q7, c7, rfl, hb39⟩
      refine ⟨_, rfl, ?_⟩
      have hH40 : HP Tr w _ [.cel b4 #[vI s, vI y, vI l, vI m] 23, rowT q1 (tcH s y (a / l) 0 t).length c1 (tcH s y (a / l) 0 t), rowT q2 (tcH s y (a / l) 0 t).length c2 (tcH s y (a / l) 0 t), rowT q3 (tcH s y (a / l) 1 t).length c3 (tcH s y (a / l) 1 t), rowT q4 (tcH s y (a / l) 1 t).length c4 (tcH s y (a / l) 1 t), rowT q5 (rJ false t u).length c5 (rJ false t u), rowT q6 (rJ false t u).length c6 (rJ false t u), rowT q7 (rJ true t u).length c7 (rJ true t u)] := HP.trans hH36 hb39
      refine WL.z (v := .tuple #[.slice q7 ((rJ true t u).length) c7, vI 0]) 79 ?_
      refine WL.z (v := .slice q7 ((rJ true t u).length) c7) 84 ?_
      refine WL.z (v := vI 0) 85 ?_
      refine WL.z (v := .slice q7 ((rJ true t u).length) c7) 13 ?_
      refine WL.z (v := vI 0) 14 ?_
      refine WL.nil (WQ.then (hK37 _ _ _ ?_))
      refine WC.sub (l' := [(0, .agg #[vI s, vI y, vI l, vI m]), (1, .slice p t.length cp), (2, .slice p2 u.length cp2), (3, vI a), (4, vP b4 0), (8, .bool false), (9, .slice q5 ((rJ false t u).length) c5), (10, vI 0), (11, .slice q6 ((rJ false t u).length) c6), (12, vI 0), (13, .slice q7 ((rJ true t u).length) c7), (14, vI 0), (15, .slice q4 ((tcH s y (a / l) 1 t).length) c4), (16, vI 0), (64, .bool false)]) ⟨rfl, rfl, rfl, rfl, rfl, rfl, rfl, rfl, rfl, rfl, rfl, rfl, rfl, rfl, rfl, trivial⟩ ?_
      refine WC.seq fun K41 hK41 => WC.region ?_
      refine WL.y (v := .agg #[vI s, vI y, vI l, vI m]) 87 (x_loadS (cs := [vI s, vI y, vI l, vI m]) rfl rfl Try.underlying23 rfl sz23 (HP.range hH40 0 rfl rfl)) ?_
      refine WL.z (v := .slice p t.length cp) 88 ?_
      refine WL.z (v := .slice p2 u.length cp2) 89 ?_
      refine WL.call (f := 38) (args := #[.agg #[vI s, vI y, vI l, vI m], .slice p t.length cp, .slice p2 u.length cp2]) 90 rfl (Nat.le_of_ble_eq_true rfl) rfl rfl (by kernel_rfl) ?_
      refine (Jo_yes (rJoinMay_any p p2 t u cp cp2 s y l m _ (hT.inn.below (HP.below hH40)) (hU.inn.below (HP.below hH40)) (tb_len hT) (tb_len hU)) h2).mono ?_
      rintro e w42 ⟨q8, c8, rfl, hb43⟩
      refine ⟨_, rfl, ?_⟩
      have hH44 : HP Tr w _ [.cel b4 #[vI s, vI y, vI l, vI m] 23, rowT q1 (tcH s y (a / l) 0 t).length c1 (tcH s y (a / l) 0 t), rowT q2 (tcH s y (a / l) 0 t).length c2 (tcH s y (a / l) 0 t), rowT q3 (tcH s y (a / l) 1 t).length c3 (tcH s y (a / l) 1 t), rowT q4 (tcH s y (a / l) 1 t).length c4 (tcH s y (a / l) 1 t), rowT q5 (rJ false t u).length c5 (rJ false t u), rowT q6 (rJ false t u).length c6 (rJ false t u), rowT q7 (rJ true t u).length c7 (rJ true t u), rowT q8 (rJ true t u).length c8 (rJ true t u)] := HP.trans hH40 hb43
      refine WL.z (v := .tuple #[.slice q8 ((rJ true t u).length) c8, vI 0]) 86 ?_
      refine WL.z (v := .slice q8 ((rJ true t u).length) c8) 91 ?_
      refine WL.z (v := vI 0) 92 ?_
      refine WL.z (v := .slice q8 ((rJ true t u).length) c8) 15 ?_
      refine WL.z (v := vI 0) 16 ?_
      refine WL.nil (WQ.then (hK41 _ _ _ ?_))
      refine WC.sub (l' := [(0, .agg #[vI s, vI y, vI l, vI m]), (1, .slice p t.length cp), (2, .slice p2 u.length cp2), (3, vI a), (4, vP b4 0), (8, .bool false), (9, .slice q5 ((rJ false t u).length) c5), (10, vI 0), (11, .slice q6 ((rJ false t u).length) c6), (12, vI 0), (13, .slice q7 ((rJ true t u).length) c7), (14, vI 0), (15, .slice q8 ((rJ true t u).length) c8), (16, vI 0), (64, .bool false)]) ⟨rfl, rfl, rfl, rfl, rfl, rfl, rfl, rfl, rfl, rfl, rfl, rfl, rfl, rfl, rfl, trivial⟩ ?_
      refine WC.seq fun K45 hK45 => WC.region ?_
      refine WL.z (v := vI 0) 93 ?_
      refine WL.z (v := vI 0) 94 ?_
      refine WL.y (v := .bool true) 95 (x_eql rfl rfl rfl (by decide)) ?_
      refine WL.z (v := .bool true) 96 ?_
      refine WL.z (v := vI 0) 97 ?_
      refine WL.z (v := vI 0) 98 ?_
      refine WL.y (v := .bool true) 99 (x_eql rfl rfl rfl (by decide)) ?_
      refine WL.z (v := .bool true) 100 ?_
      refine WL.z (v := .bool true) 101 ?_
      refine WL.z (v := .slice q5 ((rJ false t u).length) c5) 102 ?_
      refine WL.z (v := .slice q6 ((rJ false t u).length) c6) 103 ?_
      refine WL.call (f := 34) (args := #[.slice q5 ((rJ false t u).length) c5, .slice q6 ((rJ false t u).length) c6]) 104 rfl (Nat.le_of_ble_eq_true rfl) rfl rfl (by kernel_rfl) ?_
      refine (SameTable_any _ _ _ _ _ _ (InT.own (HP.get hH44 5 rfl)) (InT.own (HP.get hH44 6 rfl)) (by omega)).mono ?_
      rintro e w46 ⟨rfl, hb47⟩
      refine ⟨_, rfl, ?_⟩
      have hH48 : HP Tr w _ [.cel b4 #[vI s, vI y, vI l, vI m] 23, rowT q1 (tcH s y (a / l) 0 t).length c1 (tcH s y (a / l) 0 t), rowT q2 (tcH s y (a / l) 0 t).length c2 (tcH s y (a / l) 0 t), rowT q3 (tcH s y (a / l) 1 t).length c3 (tcH s y (a / l) 1 t), rowT q4 (tcH s y (a / l) 1 t).length c4 (tcH s y (a / l) 1 t), rowT q5 (rJ false t u).length c5 (rJ false t u), rowT q6 (rJ false t u).length c6 (rJ false t u), rowT q7 (rJ true t u).length c7 (rJ true t u), rowT q8 (rJ true t u).length c8 (rJ true t u)] := HP.call hH44 hb47
      refine WL.z (v := .bool true) 105 ?_
      refine WL.z (v := .bool true) 106 ?_
      refine WL.z (v := .slice q7 ((rJ true t u).length) c7) 107 ?_
      refine WL.z (v := .slice q8 ((rJ true t u).length) c8) 108 ?_
      refine WL.call (f := 34) (args := #[.slice q7 ((rJ true t u).length) c7, .slice q8 ((rJ true t u).length) c8]) 109 rfl (Nat.le_of_ble_eq_true rfl) rfl rfl (by kernel_rfl) ?_
      refine (SameTable_any _ _ _ _ _ _ (InT.own (HP.get hH48 7 rfl)) (InT.own (HP.get hH48 8 rfl)) (by omega)).mono ?_
      rintro e w49 ⟨rfl, hb50⟩
      refine ⟨_, rfl, ?_⟩
      have hH51 : HP Tr w _ [.cel b4 #[vI s, vI y, vI l, vI m] 23, rowT q1 (tcH s y (a / l) 0 t).length c1 (tcH s y (a / l) 0 t), rowT q2 (tcH s y (a / l) 0 t).length c2 (tcH s y (a / l) 0 t), rowT q3 (tcH s y (a / l) 1 t).length c3 (tcH s y (a / l) 1 t), rowT q4 (tcH s y (a / l) 1 t).length c4 (tcH s y (a / l) 1 t), rowT q5 (rJ false t u).length c5 (rJ false t u), rowT q6 (rJ false t u).length c6 (rJ false t u), rowT q7 (rJ true t u).length c7 (rJ true t u), rowT q8 (rJ true t u).length c8 (rJ true t u)] := HP.call hH48 hb50
      refine WL.z (v := .bool true) 110 ?_
      refine WL.z (v := .bool true) 111 ?_
      refine WL.call (f := 16) (args := #[]) 112 rfl (Nat.le_of_ble_eq_true rfl) rfl rfl (by kernel_rfl) ?_
      refine (sane_any _).mono ?_
      rintro e w52 ⟨rfl, hb53⟩
      refine ⟨_, rfl, ?_⟩
      have hH54 : HP Tr w _ [.cel b4 #[vI s, vI y, vI l, vI m] 23, rowT q1 (tcH s y (a / l) 0 t).length c1 (tcH s y (a / l) 0 t), rowT q2 (tcH s y (a / l) 0 t).length c2 (tcH s y (a / l) 0 t), rowT q3 (tcH s y (a / l) 1 t).length c3 (tcH s y (a / l) 1 t), rowT q4 (tcH s y (a / l) 1 t).length c4 (tcH s y (a / l) 1 t), rowT q5 (rJ false t u).length c5 (rJ false t u), rowT q6 (rJ false t u).length c6 (rJ false t u), rowT q7 (rJ true t u).length c7 (rJ true t u), rowT q8 (rJ true t u).length c8 (rJ true t u)] := HP.call hH51 hb53
      refine WL.z (v := .bool true) 113 ?_
      refine WL.z (v := .bool true) 8 ?_
      refine WL.nil (WQ.then (hK45 _ _ _ ?_))
      refine WC.sub (l' := [(0, .agg #[vI s, vI y, vI l, vI m]), (1, .slice p t.length cp), (2, .slice p2 u.length cp2), (3, vI a), (4, vP b4 0), (8, .bool true), (9, .slice q5 ((rJ false t u).length) c5), (10, vI 0), (11, .slice q6 ((rJ false t u).length) c6), (12, vI 0), (13, .slice q7 ((rJ true t u).length) c7), (14, vI 0), (15, .slice q8 ((rJ true t u).length) c8), (16, vI 0), (64, .bool false)]) ⟨rfl, rfl, rfl, rfl, rfl, rfl, rfl, rfl, rfl, rfl, rfl, rfl, rfl, rfl, rfl, trivial⟩ ?_
      refine WC.ret ?_
      refine WQ.ret1 8 rfl rfl ?_
      exact ⟨rfl, HP.below hH54⟩
    ·
      refine WC.region ?_
      refine WL.y (v := .agg #[vI s, vI y, vI l, vI m]) 66 (x_loadS (cs := [vI s, vI y, vI l, vI m]) rfl rfl Try.underlying23 rfl sz23 (HP.range hH28 0 rfl rfl)) ?_
      refine WL.z (v := .slice p t.length cp) 67 ?_
      refine WL.z (v := .slice p2 u.length cp2) 68 ?_
      refine WL.call (f := 35) (args := #[.agg #[vI s, vI y, vI l, vI m], .slice p t.length cp, .slice p2 u.length cp2]) 69 rfl (Nat.le_of_ble_eq_true rfl) rfl rfl (by kernel_rfl) ?_
      refine (Jo_no (JoinMust_any p p2 t u cp cp2 s y l m _ (hT.inn.below (HP.below hH28)) (hU.inn.below (HP.below hH28)) (tb_len hT) (tb_len hU)) h2).mono ?_
      rintro e w55 ⟨rfl, hb56⟩
      refine ⟨_, rfl, ?_⟩
      have hH57 : HP Tr w _ [.cel b4 #[vI s, vI y, vI l, vI m] 23, rowT q1 (tcH s y (a / l) 0 t).length c1 (tcH s y (a / l) 0 t), rowT q2 (tcH s y (a / l) 0 t).length c2 (tcH s y (a / l) 0 t), rowT q3 (tcH s y (a / l) 1 t).length c3 (tcH s y (a / l) 1 t), rowT q4 (tcH s y (a / l) 1 t).length c4 (tcH s y (a / l) 1 t)] := HP.call hH28 hb56
      refine WL.z (v := .tuple #[.slice none 0 0, vI 1]) 65 ?_
      refine WL.z (v := .slice none 0 0) 70 ?_
      refine WL.z (v := vI 1) 71 ?_
      refine WL.z (v := .slice none 0 0) 9 ?_
      refine WL.z (v := vI 1) 10 ?_
      refine WL.nil (WQ.then (hK29 _ _ _ ?_))
      refine WC.sub (l' := [(0, .agg #[vI s, vI y, vI l, vI m]), (1, .slice p t.length cp), (2, .slice p2 u.length cp2), (3, vI a), (4, vP b4 0), (8, .bool false), (9, .slice none 0 0), (10, vI 1), (11, .slice q2 ((tcH s y (a / l) 0 t).length) c2), (12, vI 0), (13, .slice q3 ((tcH s y (a / l) 1 t).length) c3), (14, vI 0), (15, .slice q4 ((tcH s y (a / l) 1 t).length) c4), (16, vI 0), (64, .bool false)]) ⟨rfl, rfl, rfl, rfl, rfl, rfl, rfl, rfl, rfl, rfl, rfl, rfl, rfl, rfl, rfl, trivial⟩ ?_
      refine WC.seq fun K58 hK58 => WC.region ?_
      refine WL.y (v := .agg #[vI s, vI y, vI l, vI m]) 73 (x_loadS (cs := [vI s, vI y, vI l, vI m]) rfl rfl Try.underlying23 rfl sz23 (HP.range hH57 0 rfl rfl)) ?_
      refine WL.z (v := .slice p t.length cp) 74 ?_
      refine WL.z (v := .slice p2 u.length cp2) 75 ?_
      refine WL.call (f := 36) (args := #[.agg #[vI s, vI y, vI l, vI m], .slice p t.length cp, .slice p2 u.length cp2]) 76 rfl (Nat.le_of_ble_eq_true rfl) rfl rfl (by kernel_rfl) ?_
      refine (Jo_no (rJoinMust_any p p2 t u cp cp2 s y l m _ (hT.inn.below (HP.below hH57)) (hU.inn.below (HP.below hH57)) (tb_len hT) (tb_len hU)) h2).mono ?_
      rintro e w59 ⟨rfl, hb60⟩
      refine ⟨_, rfl, ?_⟩
      have hH61 : HP Tr w _ [.cel b4 #[vI s, vI y, vI l, vI m] 23, rowT q1 (tcH s y (a / l) 0 t).length c1 (tcH s y (a / l) 0 t), rowT q2 (tcH s y (a / l) 0 t).length c2 (tcH s y (a / l) 0 t), rowT q3 (tcH s y (a / l) 1 t).length c3 (tcH s y (a / l) 1 t), rowT q4 (tcH s y (a / l) 1 t).length c4 (tcH s y (a / l) 1 t)] := HP.call hH57 hb60
      refine WL.z (v := .tuple #[.slice none 0 0, vI 1]) 72 ?_
      refine WL.z (v := .slice none 0 0) 77 ?_
      refine WL.z (v := vI 1) 78 ?_
      refine WL.z (v := .slice none 0 0) 11 ?_
      refine WL.z (v := vI 1) 12 ?_
      refine WL.nil (WQ.then (hK58 _ _ _ ?_))
      refine WC.sub (l' := [(0, .agg #[vI s, vI y, vI l, vI m]), (1, .slice p t.length cp), (2, .slice p2 u.length cp2), (3, vI a), (4, vP b4 0), (8, .bool false), (9, .slice none 0 0), (10, vI 1), (11, .slice none 0 0), (12, vI 1), (13, .slice q3 ((tcH s y (a / l) 1 t).length) c3), (14, vI 0), (15, .slice q4 ((tcH s y (a / l) 1 t).length) c4), (16, vI 0), (64, .bool false)]) ⟨rfl, rfl, rfl, rfl, rfl, rfl, rfl, rfl, rfl, rfl, rfl, rfl, rfl, rfl, rfl, trivial⟩ ?_
      refine WC.seq fun K62 hK62 => WC.region ?_
      refine WL.y (v := .agg #[vI s, vI y, vI l, vI m]) 80 (x_loadS (cs := [vI s, vI y, vI l, vI m]) rfl rfl Try.underlying23 rfl sz23 (HP.range hH61 0 rfl rfl)) ?_
      refine WL.z (v := .slice p t.length cp) 81 ?_
      refine WL.z (v := .slice p2 u.length cp2) 82 ?_
      refine WL.call (f := 37) (args := #[.agg #[vI s, vI y, vI l, vI m], .slice p t.length cp, .slice p2 u.length cp2]) 83 rfl (Nat.le_of_ble_eq_true rfl) rfl rfl (by kernel_rfl) ?_
      refine (Jo_no (JoinMay_any p p2 t u cp cp2 s y l m _ (hT.inn.below (HP.below hH61)) (hU.inn.below (HP.below hH61)) (tb_len hT) (tb_len hU)) h2).mono ?_
      rintro e w63 ⟨rfl, hb64⟩
      refine ⟨_, rfl, ?_⟩
      have hH65 : HP Tr w _ [.cel b4 #[vI s, vI y, vI l, vI m] 23, rowT q1 (tcH s y (a / l) 0 t).length c1 (tcH s y (a / l) 0 t), rowT q2 (tcH s y (a / l) 0 t).length c2 (tcH s y (a / l) 0 t), rowT q3 (tcH s y (a / l) 1 t).length c3 (tcH s y (a / l) 1 t), rowT q4 (tcH s y (a / l) 1 t).length c4 (tcH s y (a / l) 1 t)] := HP.call hH61 hb64
      refine WL.z (v := .tuple #[.slice none 0 0, vI 1]) 79 ?_
      refine WL.z (v := .slice none 0 0) 84 ?_
      refine WL.z (v := vI 1) 85 ?_
      refine WL.z (v := .slice none 0 0) 13 ?_
      refine WL.z (v := vI 1) 14 ?_
      refine WL.nil (WQ.then (hK62 _ _ _ ?_))
      refine WC.sub (l' := [(0, .agg #[vI s, vI y, vI l, vI m]), (1, .slice p t.length cp), (2, .slice p2 u.length cp2), (3, vI a), (4, vP b4 0), (8, .bool false), (9, .slice none 0 0), (10, vI 1), (11, .slice none 0 0), (12, vI 1), (13, .slice none 0 0), (14, vI 1), (15, .slice q4 ((tcH s y (a / l) 1 t).length) c4), (16, vI 0), (64, .bool false)]) ⟨rfl, rfl, rfl, rfl, rfl, rfl, rfl, rfl, rfl, rfl, rfl, rfl, rfl, rfl, rfl, trivial⟩ ?_
      refine WC.seq fun K66 hK66 => WC.region ?_
      refine WL.y (v := .agg #[vI s, vI y, vI l, vI m]) 87 (x_loadS (cs := [vI s, vI y, vI l, vI m]) rfl rfl Try.underlying23 rfl sz23 (HP.range hH65 0 rfl rfl)) ?_
      refine WL.z (v := .slice p t.length cp) 88 ?_
      refine WL.z (v := .slice p2 u.length cp2) 89 ?_
      refine WL.call (f := 38) (args := #[.agg #[vI s, vI y, vI l, vI m], .slice p t.length cp, .slice p2 u.length cp2]) 90 rfl (Nat.le_of_ble_eq_true rfl) rfl rfl (by kernel_rfl) ?_
      refine (Jo_no (rJoinMay_any p p2 t u cp cp2 s y l m _ (hT.inn.below (HP.below hH65)) (hU.inn.below (HP.below hH65)) (tb_len hT) (tb_len hU)) h2).mono ?_
      rintro e w67 ⟨rfl, hb68⟩
      refine ⟨_, rfl, ?_⟩
      have hH69 : HP Tr w _ [.cel b4 #[vI s, vI y, vI l, vI m] 23, rowT q1 (tcH s y (a / l) 0 t).length c1 (tcH s y (a / l) 0 t), rowT q2 (tcH s y (a / l) 0 t).length c2 (tcH s y (a / l) 0 t), rowT q3 (tcH s y (a / l) 1 t).length c3 (tcH s y (a / l) 1 t), rowT q4 (tcH s y (a / l) 1 t).length c4 (tcH s y (a / l) 1 t)] := HP.call hH65 hb68
      refine WL.z (v := .tuple #[.slice none 0 0, vI 1]) 86 ?_
      refine WL.z (v := .slice none 0 0) 91 ?_
      refine WL.z (v := vI 1) 92 ?_
      refine WL.z (v := .slice none 0 0) 15 ?_
      refine WL.z (v := vI 1) 16 ?_
      refine WL.nil (WQ.then (hK66 _ _ _ ?_))
      refine WC.sub (l' := [(0, .agg #[vI s, vI y, vI l, vI m]), (1, .slice p t.length cp), (2, .slice p2 u.length cp2), (3, vI a), (4, vP b4 0), (8, .bool false), (9, .slice none 0 0), (10, vI 1), (11, .slice none 0 0), (12, vI 1), (13, .slice none 0 0), (14, vI 1), (15, .slice none 0 0), (16, vI 1), (64, .bool false)]) ⟨rfl, rfl, rfl, rfl, rfl, rfl, rfl, rfl, rfl, rfl, rfl, rfl, rfl, rfl, rfl, trivial⟩ ?_
      refine WC.seq fun K70 hK70 => WC.region ?_
      refine WL.z (v := vI 1) 93 ?_
      refine WL.z (v := vI 1) 94 ?_
      refine WL.y (v := .bool true) 95 (x_eql rfl rfl rfl (by decide)) ?_
      refine WL.z (v := .bool true) 96 ?_
      refine WL.z (v := vI 1) 97 ?_
      refine WL.z (v := vI 1) 98 ?_
      refine WL.y (v := .bool true) 99 (x_eql rfl rfl rfl (by decide)) ?_
      refine WL.z (v := .bool true) 100 ?_
      refine WL.z (v := .bool true) 101 ?_
      refine WL.z (v := .slice none 0 0) 102 ?_
      refine WL.z (v := .slice none 0 0) 103 ?_
      refine WL.call (f := 34) (args := #[.slice none 0 0, .slice none 0 0]) 104 rfl (Nat.le_of_ble_eq_true rfl) rfl rfl (by kernel_rfl) ?_
      refine (SameTable0_any _).mono ?_
      rintro e w71 ⟨rfl, hb72⟩
      refine ⟨_, rfl, ?_⟩
      have hH73 : HP Tr w _ [.cel b4 #[vI s, vI y, vI l, vI m] 23, rowT q1 (tcH s y (a / l) 0 t).length c1 (tcH s y (a / l) 0 t), rowT q2 (tcH s y (a / l) 0 t).length c2 (tcH s y (a / l) 0 t), rowT q3 (tcH s y (a / l) 1 t).length c3 (tcH s y (a / l) 1 t), rowT q4 (tcH s y (a / l) 1 t).length c4 (tcH s y (a / l) 1 t)] := HP.call hH69 hb72
      refine WL.z (v := .bool true) 105 ?_
      refine WL.z (v := .bool true) 106 ?_
      refine WL.z (v := .slice none 0 0) 107 ?_
      refine WL.z (v := .slice none 0 0) 108 ?_
      refine WL.call (f := 34) (args := #[.slice none 0 0, .slice none 0 0]) 109 rfl (Nat.le_of_ble_eq_true rfl) rfl rfl (by kernel_rfl) ?_
      refine (SameTable0_any _).mono ?_
      rintro e w74 ⟨rfl, hb75⟩
      refine ⟨_, rfl, ?_⟩
      have hH76 : HP Tr w _ [.cel b4 #[vI s, vI y, vI l, vI m] 23, rowT q1 (tcH s y (a / l) 0 t).length c1 (tcH s y (a / l) 0 t), rowT q2 (tcH s y (a / l) 0 t).length c2 (tcH s y (a / l) 0 t), rowT q3 (tcH s y (a / l) 1 t).length c3 (tcH s y (a / l) 1 t), rowT q4 (tcH s y (a / l) 1 t).length c4 (tcH s y (a / l) 1 t)] := HP.call hH73 hb75
      refine WL.z (v := .bool true) 110 ?_
      refine WL.z (v := .bool true) 111 ?_
      refine WL.call (f := 16) (args := #[]) 112 rfl (Nat.le_of_ble_eq_true rfl) rfl rfl (by kernel_rfl) ?_
      refine (sane_any _).mono ?_
      rintro e w77 ⟨rfl, hb78⟩
      refine ⟨_, rfl, ?_⟩
      have hH79 : HP Tr w _ [.cel b4 #[vI s, vI y, vI l, vI m] 23, rowT q1 (tcH s y (a / l) 0 t).length c1 (tcH s y (a / l) 0 t), rowT q2 (tcH s y (a / l) 0 t).length c2 (tcH s y (a / l) 0 t), rowT q3 (tcH s y (a / l) 1 t).length c3 (tcH s y (a / l) 1 t), rowT q4 (tcH s y (a / l) 1 t).length c4 (tcH s y (a / l) 1 t)] := HP.call hH76 hb78
      refine WL.z (v := .bool true) 113 ?_
      refine WL.z (v := .bool true) 8 ?_
      refine WL.nil (WQ.then (hK70 _ _ _ ?_))
      refine WC.sub (l' := [(0, .agg #[vI s, vI y, vI l, vI m]), (1, .slice p t.length cp), (2, .slice p2 u.length cp2), (3, vI a), (4, vP b4 0), (8, .bool true), (9, .slice none 0 0), (10, vI 1), (11, .slice none 0 0), (12, vI 1), (13, .slice none 0 0), (14, vI 1), (15, .slice none 0 0), (16, vI 1), (64, .bool false)]) ⟨rfl, rfl, rfl, rfl, rfl, rfl, rfl, rfl, rfl, rfl, rfl, rfl, rfl, rfl, rfl, trivial⟩ ?_
      refine WC.ret ?_
      refine WQ.ret1 8 rfl rfl ?_
      exact ⟨rfl, HP.below hH79⟩
  ·
    refine WC.region ?_
    refine WL.y (v := .agg #[vI s, vI y, vI l, vI m]) 18 (x_loadS (cs := [vI s, vI y, vI l, vI m]) rfl rfl Try.underlying23 rfl sz23 (HP.range hH4 0 rfl rfl)) ?_
    refine WL.z (v := .slice p t.length cp) 19 ?_
    refine WL.z (v := vI a) 20 ?_
    refine WL.call (f := 30) (args := #[.agg #[vI s, vI y, vI l, vI m], .slice p t.length cp, vI a]) 21 rfl (Nat.le_of_ble_eq_true rfl) rfl rfl (by kernel_rfl) ?_
    refine (Ta_no (TouchMust_any p t cp s y l m a _ (hT.inn.below (HP.below hH4)) (tb_len hT)) h1).mono ?_
    rintro e w80 ⟨rfl, hb81⟩
    refine ⟨_, rfl, ?_⟩
    have hH82 : HP Tr w _ [.cel b4 #[vI s, vI y, vI l, vI m] 23] := HP.call hH4 hb81
    refine WL.z (v := .tuple #[.slice none 0 0, vI 1]) 17 ?_
    refine WL.z (v := .slice none 0 0) 22 ?_
    refine WL.z (v := vI 1) 23 ?_
    refine WL.z (v := .slice none 0 0) 9 ?_
    refine WL.z (v := vI 1) 10 ?_
    refine WL.nil (WQ.then (hK5 _ _ _ ?_))
    refine WC.sub (l' := [(0, .agg #[vI s, vI y, vI l, vI m]), (1, .slice p t.length cp), (2, .slice p2 u.length cp2), (3, vI a), (4, vP b4 0), (8, .bool false), (9, .slice none 0 0), (10, vI 1)]) ⟨rfl, rfl, rfl, rfl, rfl, rfl, rfl, rfl, trivial⟩ ?_
    refine WC.seq fun K83 hK83 => WC.region ?_
    refine WL.y (v := .agg #[vI s, vI y, vI l, vI m]) 25 (x_loadS (cs := [vI s, vI y, vI l, vI m]) rfl rfl Try.underlying23 rfl sz23 (HP.range hH82 0 rfl rfl)) ?_
    refine WL.z (v := .slice p t.length cp) 26 ?_
    refine WL.z (v := vI a) 27 ?_
    refine WL.call (f := 31) (args := #[.agg #[vI s, vI y, vI l, vI m], .slice p t.length cp, vI a]) 28 rfl (Nat.le_of_ble_eq_true rfl) rfl rfl (by kernel_rfl) ?_
    refine (Ta_no (rTouchMust_any p t cp s y l m a _ (hT.inn.below (HP.below hH82)) (tb_len hT)) h1).mono ?_
    rintro e w84 ⟨rfl, hb85⟩
    refine ⟨_, rfl, ?_⟩
    have hH86 : HP Tr w _ [.cel b4 #[vI s, vI y, vI l, vI m] 23] := HP.call hH82 hb85
    refine WL.z (v := .tuple #[.slice none 0 0, vI 1]) 24 ?_
    refine WL.z (v := .slice none 0 0) 29 ?_
    refine WL.z (v := vI 1) 30 ?_
    refine WL.z (v := .slice none 0 0) 11 ?_
    refine WL.z (v := vI 1) 12 ?_
    refine WL.nil (WQ.then (hK83 _ _ _ ?_))
    refine WC.sub (l' := [(0, .agg #[vI s, vI y, vI l, vI m]), (1, .slice p t.length cp), (2, .slice p2 u.length cp2), (3, vI a), (4, vP b4 0), (8, .bool false), (9, .slice none 0 0), (10, vI 1), (11, .slice none 0 0), (12, vI 1)]) ⟨rfl, rfl, rfl, rfl, rfl, rfl, rfl, rfl, rfl, rfl, trivial⟩ ?_
    refine WC.seq fun K87 hK87 => WC.region ?_
    refine WL.y (v := .agg #[vI s, vI y, vI l, vI m]) 32 (x_loadS (cs := [vI s, vI y, vI l, vI m]) rfl rfl Try.underlying23 rfl sz23 (HP.range hH86 0 rfl rfl)) ?_
    refine WL.z (v := .slice p t.length cp) 33 ?_
    refine WL.z (v := vI a) 34 ?_
    refine WL.call (f := 32) (args := #[.agg #[vI s, vI y, vI l, vI m], .slice p t.length cp, vI a]) 35 rfl (Nat.le_of_ble_eq_true rfl) rfl rfl (by kernel_rfl) ?_
    refine (Ta_no (TouchMay_any p t cp s y l m a _ (hT.inn.below (HP.below hH86)) (tb_len hT)) h1).mono ?_
    rintro e w88 ⟨rfl, hb89⟩
    refine ⟨_, rfl, ?_⟩
    have hH90 : HP Tr w _ [.cel b4 #[vI s, vI y, vI l, vI m] 23] := HP.call hH86 hb89
    refine WL.z (v := .tuple #[.slice none 0 0, vI 1]) 31 ?_
    refine WL.z (v := .slice none 0 0) 36 ?_
    refine WL.z (v := vI 1) 37 ?_
    refine WL.z (v := .slice none 0 0) 13 ?_
    refine WL.z (v := vI 1) 14 ?_
    refine WL.nil (WQ.then (hK87 _ _ _ ?_))
    refine WC.sub (l' := [(0, .agg #[vI s, vI y, vI l, vI m]), (1, .slice p t.length cp), (2, .slice p2 u.length cp2), (3, vI a), (4, vP b4 0), (8, .bool false), (9, .slice none 0 0), (10, vI 1), (11, .slice none 0 0), (12, vI 1), (13, .slice none 0 0), (14, vI 1)]) ⟨rfl, rfl, rfl, rfl, rfl, rfl, rfl, rfl, rfl, rfl, rfl, rfl, trivial⟩ ?_
    refine WC.seq fun K91 hK91 => WC.region ?_
    refine WL.y (v := .agg #[vI s, vI y, vI l, vI m]) 39 (x_loadS (cs := [vI s, vI y, vI l, vI m]) rfl rfl Try.underlying23 rfl sz23 (HP.range hH90 0 rfl rfl)) ?_
    refine WL.z (v := .slice p t.length cp) 40 ?_
    refine WL.z (v := vI a) 41 ?_
    refine WL.call (f := 33) (args := #[.agg #[vI s, vI y, vI l, vI m], .slice p t.length cp, vI a]) 42 rfl (Nat.le_of_ble_eq_true rfl) rfl rfl (by kernel_rfl) ?_
    refine (Ta_no (rTouchMay_any p t cp s y l m a _ (hT.inn.below (HP.below hH90)) (tb_len hT)) h1).mono ?_
    rintro e w92 ⟨rfl, hb93⟩
    refine ⟨_, rfl, ?_⟩
    have hH94 : HP Tr w _ [.cel b4 #[vI s, vI y, vI l, vI m] 23] := HP.call hH90 hb93
    refine WL.z (v := .tuple #[.slice none 0 0, vI 1]) 38 ?_
    refine WL.z (v := .slice none 0 0) 43 ?_
    refine WL.z (v := vI 1) 44 ?_
    refine WL.z (v := .slice none 0 0) 15 ?_
    refine WL.z (v := vI 1) 16 ?_
    refine WL.nil (WQ.then (hK91 _ _ _ ?_))
    refine WC.sub (l' := [(0, .agg #[vI s, vI y, vI l, vI m]), (1, .slice p t.length cp), (2, .slice p2 u.length cp2), (3, vI a), (4, vP b4 0), (8, .bool false), (9, .slice none 0 0), (10, vI 1), (11, .slice none 0 0), (12, vI 1), (13, .slice none 0 0), (14, vI 1), (15, .slice none 0 0), (16, vI 1)]) ⟨rfl, rfl, rfl, rfl, rfl, rfl, rfl, rfl, rfl, rfl, rfl, rfl, rfl, rfl, trivial⟩ ?_
    refine WC.seq fun K95 hK95 => WC.seq fun K96 hK96 => WC.region ?_
    refine WL.z (v := vI 1) 45 ?_
    refine WL.z (v := vI 1) 46 ?_
    refine WL.y (v := .bool false) 47 (x_neq rfl rfl rfl (by decide)) ?_
    refine WL.z (v := .bool false) 48 ?_
    refine WL.z (v := vI 1) 49 ?_
    refine WL.z (v := vI 1) 50 ?_
    refine WL.y (v := .bool false) 51 (x_neq rfl rfl rfl (by decide)) ?_
    refine WL.z (v := .bool false) 52 ?_
    refine WL.z (v := .bool false) 53 ?_
    refine WL.z (v := .slice none 0 0) 54 ?_
    refine WL.z (v := .slice none 0 0) 55 ?_
    refine WL.call (f := 34) (args := #[.slice none 0 0, .slice none 0 0]) 56 rfl (Nat.le_of_ble_eq_true rfl) rfl rfl (by kernel_rfl) ?_
    refine (SameTable0_any _).mono ?_
    rintro e w97 ⟨rfl, hb98⟩
    refine ⟨_, rfl, ?_⟩
    have hH99 : HP Tr w _ [.cel b4 #[vI s, vI y, vI l, vI m] 23] := HP.call hH94 hb98
    refine WL.z (v := .bool false) 57 ?_
    refine WL.z (v := .bool false) 58 ?_
    refine WL.z (v := .bool false) 59 ?_
    refine WL.z (v := .slice none 0 0) 60 ?_
    refine WL.z (v := .slice none 0 0) 61 ?_
    refine WL.call (f := 34) (args := #[.slice none 0 0, .slice none 0 0]) 62 rfl (Nat.le_of_ble_eq_true rfl) rfl rfl (by kernel_rfl) ?_
    refine (SameTable0_any _).mono ?_
    rintro e w100 ⟨rfl, hb101⟩
    refine ⟨_, rfl, ?_⟩
    have hH102 : HP Tr w _ [.cel b4 #[vI s, vI y, vI l, vI m] 23] := HP.call hH99 hb101
    refine WL.z (v := .bool false) 63 ?_
    refine WL.z (v := .bool false) 64 ?_
    refine WL.nil (WQ.then (hK96 _ _ _ ?_))
    refine WC.sub (l' := [(0, .agg #[vI s, vI y, vI l, vI m]), (1, .slice p t.length cp), (2, .slice p2 u.length cp2), (3, vI a), (4, vP b4 0), (8, .bool false), (9, .slice none 0 0), (10, vI 1), (11, .slice none 0 0), (12, vI 1), (13, .slice none 0 0), (14, vI 1), (15, .slice none 0 0), (16, vI 1), (64, .bool false)]) ⟨rfl, rfl, rfl, rfl, rfl, rfl, rfl, rfl, rfl, rfl, rfl, rfl, rfl, rfl, rfl, trivial⟩ ?_
    refine WC.no rfl (WC.skip (WQ.then (hK95 _ _ _ (WC.seq fun K103 hK103 => ?_))))
    rcases Bool.eq_false_or_eq_true (joC s y l m t u) with h2 | h2
    ·
      have hv3 := (jo_VT false h2).len
      have hv4 := (jo_VT true h2).len
      refine WC.region ?_
      refine WL.y (v := .agg #[vI s, vI y, vI l, vI m]) 66 (x_loadS (cs := [vI s, vI y, vI l, vI m]) rfl rfl Try.underlying23 rfl sz23 (HP.range hH102 0 rfl rfl)) ?_
      refine WL.z (v := .slice p t.length cp) 67 ?_
      refine WL.z (v := .slice p2 u.length cp2) 68 ?_
      refine WL.call (f := 35) (args := #[.agg #[vI s, vI y, vI l, vI m], .slice p t.length cp, .slice p2 u.length cp2]) 69 rfl (Nat.le_of_ble_eq_true rfl) rfl rfl (by kernel_rfl) ?_
      refine (Jo_yes (JoinMust_any p p2 t u cp cp2 s y l m _ (hT.inn.below (HP.below hH102)) (hU.inn.below (HP.below hH102)) (tb_len hT) (tb_len hU)) h2).mono ?_
      rintro e w104 ⟨q5, c5, rfl, hb105⟩
      refine ⟨_, rfl, ?_⟩
      have hH106 : HP Tr w _ [.cel b4 #[vI s, vI y, vI l, vI m] 23, rowT q5 (rJ false t u).length c5 (rJ false t u)] := HP.trans hH102 hb105
      refine WL.z (v := .tuple #[.slice q5 ((rJ false t u).length) c5, vI 0]) 65 ?_
      refine WL.z (v := .slice q5 ((rJ false t u).length) c5) 70 ?_
      refine WL.z (v := vI 0) 71 ?_
      refine WL.z (v := .slice q5 ((rJ false t u).length) c5) 9 ?_
      refine WL.z (v := vI 0) 10 ?_
      refine WL.nil (WQ.then (hK103 _ _ _ ?_))
      refine WC.sub (l' := [(0, .agg #[vI s, vI y, vI l, vI m]), (1, .slice p t.length cp), (2, .slice p2 u.length cp2), (3, vI a), (4, vP b4 0), (8, .bool false), (9, .slice q5 ((rJ false t u).length) c5), (10, vI 0), (11, .slice none 0 0), (12, vI 1), (13, .slice none 0 0), (14, vI 1), (15, .slice none 0 0), (16, vI 1), (64, .bool false)]) ⟨rfl, rfl, rfl, rfl, rfl, rfl, rfl, rfl, rfl, rfl, rfl, rfl, rfl, rfl, rfl, trivial⟩ ?_
      refine WC.seq fun K107 hK107 => WC.region ?_
      refine WL.y (v := .agg #[vI s, vI y, vI l, vI m]) 73 (x_loadS (cs := [vI s, vI y, vI l, vI m]) rfl rfl Try.underlying23 rfl sz23 (HP.range hH106 0 rfl rfl)) ?_
      refine WL.z (v := .slice p t.length cp) 74 ?_
      refine WL.z (v := .slice p2 u.length cp2) 75 ?_
      refine WL.call (f := 36) (args := #[.agg #[vI s, vI y, vI l, vI m], .slice p t.length cp, .slice p2 u.length cp2]) 76 rfl (Nat.le_of_ble_eq_true rfl) rfl rfl (by kernel_rfl) ?_
      refine (Jo_yes (rJoinMust_any p p2 t u cp cp2 s y l m _ (hT.inn.below (HP.below hH106)) (hU.inn.below (HP.below hH106)) (tb_len hT) (tb_len hU)) h2).mono ?_
      rintro e w108 ⟨q6, c6, rfl, hb109⟩
      refine ⟨_, rfl, ?_⟩
      have hH110 : HP Tr w _ [.cel b4 #[vI s, vI y, vI l, vI m] 23, rowT q5 (rJ false t u).length c5 (rJ false t u), rowT q6 (rJ false t u).length c6 (rJ false t u)] := HP.trans hH106 hb109
      refine WL.z (v := .tuple #[.slice q6 ((rJ false t u).length) c6, vI 0]) 72 ?_
      refine WL.z (v := .slice q6 ((rJ false t u).length) c6) 77 ?_
      refine WL.z (v := vI 0) 78 ?_
      refine WL.z (v := .slice q6 ((rJ false t u).length) c6) 11 ?_
      refine WL.z (v := vI 0) 12 ?_
      refine WL.nil (WQ.then (hK107 _ _ _ ?_))
      refine WC.sub (l' := [(0, .agg #[vI s, vI y, vI l, vI m]), (1, .slice p t.length cp), (2, .slice p2 u.length cp2), (3, vI a), (4, vP b4 0), (8, .bool false), (9, .slice q5 ((rJ false t u).length) c5), (10, vI 0), (11, .slice q6 ((rJ false t u).length) c6), (12, vI 0), (13, .slice none 0 0), (14, vI 1), (15, .slice none 0 0), (16, vI 1), (64, .bool false)]) ⟨rfl, rfl, rfl, rfl, rfl, rfl, rfl, rfl, rfl, rfl, rfl, rfl, rfl, rfl, rfl, trivial⟩ ?_
      refine WC.seq fun K111 hK111 => WC.region ?_
      refine WL.y (v := .agg #[vI s, vI y, vI l, vI m]) 80 (x_loadS (cs := [vI s, vI y, vI l, vI m]) rfl rfl Try.underlying23 rfl sz23 (HP.range hH110 0 rfl rfl)) ?_
      refine WL.z (v := .slice p t.length cp) 81 ?_
      refine WL.z (v := .slice p2 u.length cp2) 82 ?_
      refine WL.call (f := 37) (args := #[.agg #[vI s, vI y, vI l, vI m], .slice p t.length cp, .slice p2 u.length cp2]) 83 rfl (Nat.le_of_ble_eq_true rfl) rfl rfl (by kernel_rfl) ?_
      refine (Jo_yes (JoinMay_any p p2 t u cp cp2 s y l m _ (hT.inn.below (HP.below hH110)) (hU.inn.below (HP.below hH110)) (tb_len hT) (tb_len hU)) h2).mono ?_
      rintro e w112 ⟨q7, c7, rfl, hb113⟩
      refine ⟨_, rfl, ?_⟩
      have hH114 : HP Tr w _ [.cel b4 #[vI s, vI y, vI l, vI m] 23, rowT q5 (rJ false t u).length c5 (rJ false t u), rowT q6 (rJ false t u).length c6 (rJ false t u), rowT q7 (rJ true t u).length c7 (rJ true t u)] := HP.trans hH110 hb113
      refine WL.z (v := .tuple #[.slice q7 ((rJ true t u).length) c7, vI 0]) 79 ?_
      refine WL.z (v := .slice q7 ((rJ true t u).length) c7) 84 ?_
      refine WL.z (v := vI 0) 85 ?_
      refine WL.z (v := .slice q7 ((rJ true t u).length) c7) 13 ?_
      refine WL.z (v := vI 0) 14 ?_
      refine WL.nil (WQ.then (hK111 _ _ _ ?_))
      refine WC.sub (l' := [(0, .agg #[vI s, vI y, vI l, vI m]), (1, .slice p t.length cp), (2, .slice p2 u.length cp2), (3, vI a), (4, vP b4 0), (8, .bool false), (9, .slice q5 ((rJ false t u).length) c5), (10, vI 0), (11, .slice q6 ((rJ false t u).length) c6), (12, vI 0), (13, .slice q7 ((rJ true t u).length) c7), (14, vI 0), (15, .slice none 0 0), (16, vI 1), (64, .bool false)]) ⟨rfl, rfl, rfl, rfl, rfl, rfl, rfl, rfl, rfl, rfl, rfl, rfl, rfl, rfl, rfl, trivial⟩ ?_
      refine WC.seq fun K115 hK115 => WC.region ?_
      refine WL.y (v := .agg #[vI s, vI y, vI l, vI m]) 87 (x_loadS (cs := [vI s, vI y, vI l, vI m]) rfl rfl Try.underlying23 rfl sz23 (HP.range hH114 0 rfl rfl)) ?_
      refine WL.z (v := .slice p t.length cp) 88 ?_
      refine WL.z (v := .slice p2 u.length cp2) 89 ?_
      refine WL.call (f := 38) (args := #[.agg #[vI s, vI y, vI l, vI m], .slice p t.length cp, .slice p2 u.length cp2]) 90 rfl (Nat.le_of_ble_eq_true rfl) rfl rfl (by kernel_rfl) ?_
      refine (Jo_yes (rJoinMay_any p p2 t u cp cp2 s y l m _ (hT.inn.below (HP.below hH114)) (hU.inn.below (HP.below hH114)) (tb_len hT) (tb_len hU)) h2).mono ?_
      rintro e w116 ⟨q8, c8, rfl, hb117⟩
      refine ⟨_, rfl, ?_⟩
      have hH118 : HP Tr w _ [.cel b4 #[vI s, vI y, vI l, vI m] 23, rowT q5 (rJ false t u).length c5 (rJ false t u), rowT q6 (rJ false t u).length c6 (rJ false t u), rowT q7 (rJ true t u).length c7 (rJ true t u), rowT q8 (rJ true t u).length c8 (rJ true t u)] := HP.trans hH114 hb117
      refine WL.z (v := .tuple #[.slice q8 ((rJ true t u).length) c8, vI 0]) 86 ?_
      refine WL.z (v := .slice q8 ((rJ true t u).length) c8) 91 ?_
      refine WL.z (v := vI 0) 92 ?_
      refine WL.z (v := .slice q8 ((rJ true t u).length) c8) 15 ?_
      refine WL.z (v := vI 0) 16 ?_
      refine WL.nil (WQ.then (hK115 _ _ _ ?_))
      refine WC.sub (l' := [(0, .agg #[vI s, vI y, vI l, vI m]), (1, .slice p t.length cp), (2, .slice p2 u.length cp2), (3, vI a), (4, vP b4 0), (8, .bool false), (9, .slice q5 ((rJ false t u).length) c5), (10, vI 0), (11, .slice q6 ((rJ false t u).length) c6), (12, vI 0), (13, .slice q7 ((rJ true t u).length) c7), (14, vI 0), (15, .slice q8 ((rJ true t u).length) c8), (16, vI 0), (64, .bool false)]) ⟨rfl, rfl, rfl, rfl, rfl, rfl, rfl, rfl, rfl, rfl, rfl, rfl, rfl, rfl, rfl, trivial⟩ ?_
      refine WC.seq fun K119 hK119 => WC.region ?_
      refine WL.z (v := vI 0) 93 ?_
      refine WL.z (v := vI 0) 94 ?_
      refine WL.y (v := .bool true) 95 (x_eql rfl rfl rfl (by decide)) ?_
      refine WL.z (v := .bool true) 96 ?_
      refine WL.z (v := vI 0) 97 ?_
      refine WL.z (v := vI 0) 98 ?_
      refine WL.y (v := .bool true) 99 (x_eql rfl rfl rfl (by decide)) ?_
      refine WL.z (v := .bool true) 100 ?_
      refine WL.z (v := .bool true) 101 ?_
      refine WL.z (v := .slice q5 ((rJ false t u).length) c5) 102 ?_
      refine WL.z (v := .slice q6 ((rJ false t u).length) c6) 103 ?_
      refine WL.call (f := 34) (args := #[.slice q5 ((rJ false t u).length) c5, .slice q6 ((rJ false t u).length) c6]) 104 rfl (Nat.le_of_ble_eq_true rfl) rfl rfl (by kernel_rfl) ?_
      refine (SameTable_any _ _ _ _ _ _ (InT.own (HP.get hH118 1 rfl)) (InT.own (HP.get hH118 2 rfl)) (by omega)).mono ?_
      rintro e w120 ⟨rfl, hb121⟩
      refine ⟨_, rfl, ?_⟩
      have hH122 : HP Tr w _ [.cel b4 #[vI s, vI y, vI l, vI m] 23, rowT q5 (rJ false t u).length c5 (rJ false t u), rowT q6 (rJ false t u).length c6 (rJ false t u), rowT q7 (rJ true t u).length c7 (rJ true t u), rowT q8 (rJ true t u).length c8 (rJ true t u)] := HP.call hH118 hb121
      refine WL.z (v := .bool true) 105 ?_
      refine WL.z (v := .bool true) 106 ?_
      refine WL.z (v := .slice q7 ((rJ true t u).length) c7) 107 ?_
      refine WL.z (v := .slice q8 ((rJ true t u).length) c8) 108 ?_
      refine WL.call (f := 34) (args := #[.slice q7 ((rJ true t u).length) c7, .slice q8 ((rJ true t u).length) c8]) 109 rfl (Nat.le_of_ble_eq_true rfl) rfl rfl (by kernel_rfl) ?_
      refine (SameTable_any _ _ _ _ _ _ (InT.own (HP.get hH122 3 rfl)) (InT.own (HP.get hH122 4 rfl)) (by omega)).mono ?_
      rintro e w123 ⟨rfl, hb124⟩
      refine ⟨_, rfl, ?_⟩
      have hH125 : HP Tr w _ [.cel b4 #[vI s, vI y, vI l, vI m] 23, rowT q5 (rJ false t u).length c5 (rJ false t u), rowT q6 (rJ false t u).length c6 (rJ false t u), rowT q7 (rJ true t u).length c7 (rJ true t u), rowT q8 (rJ true t u).length c8 (rJ true t u)] := HP.call hH122 hb124
      refine WL.z (v := .bool true) 110 ?_
      refine WL.z (v := .bool true) 111 ?_
      refine WL.call (f := 16) (args := #[]) 112 rfl (Nat.le_of_ble_eq_true rfl) rfl rfl (by kernel_rfl) ?_
      refine (sane_any _).mono ?_
      rintro e w126 ⟨rfl, hb127⟩
      refine ⟨_, rfl, ?_⟩
      have hH128 : HP Tr w _ [.cel b4 #[vI s, vI y, vI l, vI m] 23, rowT q5 (rJ false t u).length c5 (rJ false t u), rowT q6 (rJ false t u).length c6 (rJ false t u), rowT q7 (rJ true t u).length c7 (rJ true t u), rowT q8 (rJ true t u).length c8 (rJ true t u)] := HP.call hH125 hb127
      refine WL.z (v := .bool true) 113 ?_
      refine WL.z (v := .bool true) 8 ?_
      refine WL.nil (WQ.then (hK119 _ _ _ ?_))
      refine WC.sub (l' := [(0, .agg #[vI s, vI y, vI l, vI m]), (1, .slice p t.length cp), (2, .slice p2 u.length cp2), (3, vI a), (4, vP b4 0), (8, .bool true), (9, .slice q5 ((rJ false t u).length) c5), (10, vI 0), (11, .slice q6 ((rJ false t u).length) c6), (12, vI 0), (13, .slice q7 ((rJ true t u).length) c7), (14, vI 0), (15, .slice q8 ((rJ true t u).length) c8), (16, vI 0), (64, .bool false)]) ⟨rfl, rfl, rfl, rfl, rfl, rfl, rfl, rfl, rfl, rfl, rfl, rfl, rfl, rfl, rfl, trivial⟩ ?_
      refine WC.ret ?_
      refine WQ.ret1 8 rfl rfl ?_
      exact ⟨rfl, HP.below hH128⟩
    ·
      refine WC.region ?_
      refine WL.y (v := .agg #[vI s, vI y, vI l, vI m]) 66 (x_loadS (cs := [vI s, vI y, vI l, vI m]) rfl rfl Try.underlying23 rfl sz23 (HP.range hH102 0 rfl rfl)) ?_
      refine WL.z (v := .slice p t.length cp) 67 ?_
      refine WL.z (v := .slice p2 u.length cp2) 68 ?_
      refine WL.call (f := 35) (args := #[.agg #[vI s, vI y, vI l, vI m], .slice p t.length cp, .slice p2 u.length cp2]) 69 rfl (Nat.le_of_ble_eq_true rfl) rfl rfl (by kernel_rfl) ?_
      refine (Jo_no (JoinMust_any p p2 t u cp cp2 s y l m _ (hT.inn.below (HP.below hH102)) (hU.inn.below (HP.below hH102)) (tb_len hT) (tb_len hU)) h2).mono ?_
      rintro e w129 ⟨rfl, hb130⟩
      refine ⟨_, rfl, ?_⟩
      have hH131 : HP Tr w _ [.cel b4 #[vI s, vI y, vI l, vI m] 23] := HP.call hH102 hb130
      refine WL.z (v := .tuple #[.slice none 0 0, vI 1]) 65 ?_
      refine WL.z (v := .slice none 0 0) 70 ?_
      refine WL.z (v := vI 1) 71 ?_
      refine WL.z (v := .slice none 0 0) 9 ?_
      refine WL.z (v := vI 1) 10 ?_
      refine WL.nil (WQ.then (hK103 _ _ _ ?_))
      refine WC.sub (l' := [(0, .agg #[vI s, vI y, vI l, vI m]), (1, .slice p t.length cp), (2, .slice p2 u.length cp2), (3, vI a), (4, vP b4 0), (8, .bool false), (9, .slice none 0 0), (10, vI 1), (11, .slice none 0 0), (12, vI 1), (13, .slice none 0 0), (14, vI 1), (15, .slice none 0 0), (16, vI 1), (64, .bool false)]) ⟨rfl, rfl, rfl, rfl, rfl, rfl, rfl, rfl, rfl, rfl, rfl, rfl, rfl, rfl, rfl, trivial⟩ ?_
      refine WC.seq fun K132 hK132 => WC.region ?_
      refine WL.y (v := .agg #[vI s, vI y, vI l, vI m]) 73 (x_loadS (cs := [vI s, vI y, vI l, vI m]) rfl rfl Try.underlying23 rfl sz23 (HP.range hH131 0 rfl rfl)) ?_
      refine WL.z (v := .slice p t.length cp) 74 ?_
      refine WL.z (v := .slice p2 u.length cp2) 75 ?_
      refine WL.call (f := 36) (args := #[.agg #[vI s, vI y, vI l, vI m], .slice p t.length cp, .slice p2 u.length cp2]) 76 rfl (Nat.le_of_ble_eq_true rfl) rfl rfl (by kernel_rfl) ?_
      refine (Jo_no (rJoinMust_any p p2 t u cp cp2 s y l m _ (hT.inn.below (HP.below hH131)) (hU.inn.below (HP.below hH131)) (tb_len hT) (tb_len hU)) h2).mono ?_
      rintro e w133 ⟨rfl, hb134⟩
      refine ⟨_, rfl, ?_⟩
      have hH135 : HP Tr w _ [.cel b4 #[vI s, vI y, vI l, vI m] 23] := HP.call hH131 hb134
      refine WL.z (v := .tuple #[.slice none 0 0, vI 1]) 72 ?_
      refine WL.z (v := .slice none 0 0) 77 ?_
      refine WL.z (v := vI 1) 78 ?_
      refine WL.z (v := .slice none 0 0) 11 ?_
      refine WL.z (v := vI 1) 12 ?_
      refine WL.nil (WQ.then (hK132 _ _ _ ?_))
      refine WC.sub (l' := [(0, .agg #[vI s, vI y, vI l, vI m]), (1, .slice p t.length cp), (2, .slice p2 u.length cp2), (3, vI a), (4, vP b4 0), (8, .bool false), (9, .slice none 0 0), (10, vI 1), (11, .slice none 0 0), (12, vI 1), (13, .slice none 0 0), (14, vI 1), (15, .slice none 0 0), (16, vI 1), (64, .bool false)]) ⟨rfl, rfl, rfl, rfl, rfl, rfl, rfl, rfl, rfl, rfl, rfl, rfl, rfl, rfl, rfl, trivial⟩ ?_
      refine WC.seq fun K136 hK136 => WC.region ?_
      refine WL.y (v := .agg #[vI s, vI y, vI l, vI m]) 80 (x_loadS (cs := [vI s, vI y, vI l, vI m]) rfl rfl Try.underlying23 rfl sz23 (HP.range hH135 0 rfl rfl)) ?_
      refine WL.z (v := .slice p t.length cp) 81 ?_
      refine WL.z (v := .slice p2 u.length cp2) 82 ?_
      refine WL.call (f := 37) (args := #[.agg #[vI s, vI y, vI l, vI m], .slice p t.length cp, .slice p2 u.length cp2]) 83 rfl (Nat.le_of_ble_eq_true rfl) rfl rfl (by kernel_rfl) ?_
      refine (Jo_no (JoinMay_any p p2 t u cp cp2 s y l m _ (hT.inn.below (HP.below hH135)) (hU.inn.below (HP.below hH135)) (tb_len hT) (tb_len hU)) h2).mono ?_
      rintro e w137 ⟨rfl, hb138⟩
      refine ⟨_, rfl, ?_⟩
      have hH139 : HP Tr w _ [.cel b4 #[vI s, vI y, vI l, vI m] 23] := HP.call hH135 hb138
      refine WL.z (v := .tuple #[.slice none 0 0, vI 1]) 79 ?_
      refine WL.z (v := .slice none 0 0) 84 ?_
      refine WL.z (v := vI 1) 85 ?_
      refine WL.z (v := .slice none 0 0) 13 ?_
      refine WL.z (v := vI 1) 14 ?_
      refine WL.nil (WQ.then (hK136 _ _ _ ?_))
      refine WC.sub (l' := [(0, .agg #[vI s, vI y, vI l, vI m]), (1, .slice p t.length cp), (2, .slice p2 u.length cp2), (3, vI a), (4, vP b4 0), (8, .bool false), (9, .slice none 0 0), (10, vI 1), (11, .slice none 0 0), (12, vI 1), (13, .slice none 0 0), (14, vI 1), (15, .slice none 0 0), (16, vI 1), (64, .bool false)]) ⟨rfl, rfl, rfl, rfl, rfl, rfl, rfl, rfl, rfl, rfl, rfl, rfl, rfl, rfl, rfl, trivial⟩ ?_
      refine WC.seq fun K140 hK140 => WC.region ?_
      refine WL.y (v := .agg #[vI s, vI y, vI l, vI m]) 87 (x_loadS (cs := [vI s, vI y, vI l, vI m]) rfl rfl Try.underlying23 rfl sz23 (HP.range hH139 0 rfl rfl)) ?_
      refine WL.z (v := .slice p t.length cp) 88 ?_
      refine WL.z (v := .slice p2 u.length cp2) 89 ?_
      refine WL.call (f := 38) (args := #[.agg #[vI s, vI y, vI l, vI m], .slice p t.length cp, .slice p2 u.length cp2]) 90 rfl (Nat.le_of_ble_eq_true rfl) rfl rfl (by kernel_rfl) ?_
      refine (Jo_no (rJoinMay_any p p2 t u cp cp2 s y l m _ (hT.inn.below (HP.below hH139)) (hU.inn.below (HP.below hH139)) (tb_len hT) (tb_len hU)) h2).mono ?_
      rintro e w141 ⟨rfl, hb142⟩
      refine ⟨_, rfl, ?_⟩
      have hH143 : HP Tr w _ [.cel b4 #[vI s, vI y, vI l, vI m] 23] := HP.call hH139 hb142
      refine WL.z (v := .tuple #[.slice none 0 0, vI 1]) 86 ?_
      refine WL.z (v := .slice none 0 0) 91 ?_
      refine WL.z (v := vI 1) 92 ?_
      refine WL.z (v := .slice none 0 0) 15 ?_
      refine WL.z (v := vI 1) 16 ?_
      refine WL.nil (WQ.then (hK140 _ _ _ ?_))
      refine WC.sub (l' := [(0, .agg #[vI s, vI y, vI l, vI m]), (1, .slice p t.length cp), (2, .slice p2 u.length cp2), (3, vI a), (4, vP b4 0), (8, .bool false), (9, .slice none 0 0), (10, vI 1), (11, .slice none 0 0), (12, vI 1), (13, .slice none 0 0), (14, vI 1), (15, .slice none 0 0), (16, vI 1), (64, .bool false)]) ⟨rfl, rfl, rfl, rfl, rfl, rfl, rfl, rfl, rfl, rfl, rfl, rfl, rfl, rfl, rfl, trivial⟩ ?_
      refine WC.seq fun K144 hK144 => WC.region ?_
      refine WL.z (v := vI 1) 93 ?_
      refine WL.z (v := vI 1) 94 ?_
      refine WL.y (v := .bool true) 95 (x_eql rfl rfl rfl (by decide)) ?_
      refine WL.z (v := .bool true) 96 ?_
      refine WL.z (v := vI 1) 97 ?_
      refine WL.z (v := vI 1) 98 ?_
      refine WL.y (v := .bool true) 99 (x_eql rfl rfl rfl (by decide)) ?_
      refine WL.z (v := .bool true) 100 ?_
      refine WL.z (v := .bool true) 101 ?_
      refine WL.z (v := .slice none 0 0) 102 ?_
      refine WL.z (v := .slice none 0 0) 103 ?_
      refine WL.call (f := 34) (args := #[.slice none 0 0, .slice none 0 0]) 104 rfl (Nat.le_of_ble_eq_true rfl) rfl rfl (by kernel_rfl) ?_
      refine (SameTable0_any _).mono ?_
      rintro e w145 ⟨rfl, hb146⟩
      refine ⟨_, rfl, ?_⟩
      have hH147 : HP Tr w _ [.cel b4 #[vI s, vI y, vI l, vI m] 23] := HP.call hH143 hb146
      refine WL.z (v := .bool true) 105 ?_
      refine WL.z (v := .bool true) 106 ?_
      refine WL.z (v := .slice none 0 0) 107 ?_
      refine WL.z (v := .slice none 0 0) 108 ?_
      refine WL.call (f := 34) (args := #[.slice none 0 0, .slice none 0 0]) 109 rfl (Nat.le_of_ble_eq_true rfl) rfl rfl (by kernel_rfl) ?_
      refine (SameTable0_any _).mono ?_
      rintro e w148 ⟨rfl, hb149⟩
      refine ⟨_, rfl, ?_⟩
      have hH150 : HP Tr w _ [.cel b4 #[vI s, vI y, vI l, vI m] 23] := HP.call hH147 hb149
      refine WL.z (v := .bool true) 110 ?_
      refine WL.z (v := .bool true) 111 ?_
      refine WL.call (f := 16) (args := #[]) 112 rfl (Nat.le_of_ble_eq_true rfl) rfl rfl (by kernel_rfl) ?_
      refine (sane_any _).mono ?_
      rintro e w151 ⟨rfl, hb152⟩
      refine ⟨_, rfl, ?_⟩
      have hH153 : HP Tr w _ [.cel b4 #[vI s, vI y, vI l, vI m] 23] := HP.call hH150 hb152
      refine WL.z (v := .bool true) 113 ?_
      refine WL.z (v := .bool true) 8 ?_
      refine WL.nil (WQ.then (hK144 _ _ _ ?_))
      refine WC.sub (l' := [(0, .agg #[vI s, vI y, vI l, vI m]), (1, .slice p t.length cp), (2, .slice p2 u.length cp2), (3, vI a), (4, vP b4 0), (8, .bool true), (9, .slice none 0 0), (10, vI 1), (11, .slice none 0 0), (12, vI 1), (13, .slice none 0 0), (14, vI 1), (15, .slice none 0 0), (16, vI 1), (64, .bool false)]) ⟨rfl, rfl, rfl, rfl, rfl, rfl, rfl, rfl, rfl, rfl, rfl, rfl, rfl, rfl, rfl, trivial⟩ ?_
      refine WC.ret ?_
      refine WQ.ret1 8 rfl rfl ?_
      exact ⟨rfl, HP.below hH153⟩

theorem own : ownKnob Try.prog.godebug = none := by kernel_rfl
theorem laidOut : laidOutB Try.prog = true := by kernel_rfl
theorem cells23 : Try.prog.cellsOf 23 = 4 := by kernel_rfl

set_option maxRecDepth 100000 in
theorem lifted (os : Os) (started : os.Started) (H : Type) (enc : TypeId × Value → H) :
    ReturnsInHanded {} Try.checked os 9 .any (Rows.cacheTablesSpec.pre6 enc Try.prog Try.f9 Rows.cacheTablesRow.domain false) (Rows.cacheTablesSpec.post enc Try.prog Try.f9 false true false false) := by
  refine returnsInHanded_of_change_sized (C := Try.checked) own started (by kernel_rfl) Try.func9
    (ChangeSpec.witness6 (enc := enc) (C := Try.checked) false ⟨#[], #[.agg #[.int .i64 0, .int .i64 0, .int .i64 0, .int .i64 0], .slice none 0 0, .slice none 0 0, .int .i64 0], []⟩ 8 (by kernel_rfl) (by kernel_rfl) (by kernel_rfl) (by kernel_rfl)) ?_
  intro W base args ds gs before hval0 hW hcnd hsz0 _
  have hval : ∀ (j : Nat) t v, Try.f9.params[j]? = some t → args[j]? = some v → Value.okWide Try.prog W .any base t v := hval0
  have hW' := hW
  obtain ⟨p, q, hA0, hV, rfl, hfz, hnd⟩ := hW
  have hA : DataW.TrodAll enc Try.prog W 0 (fun _ => true) true Try.f9.params.toList args.toList ds p := hA0
  have hsz : (DataW.weightsEach Try.prog (Try.f9.params.toList ++ Rows.cacheTablesSpec.plain.varTypes Try.prog) (ds ++ gs)).all (· ≤ reachBytes) = true := hsz0
  clear hsz0
  rw [Try.params9] at hA hval hsz
  obtain ⟨v0, vs0, d0, ds0, p0, q0, hargs, rfl, rfl, h0, r0⟩ := trodAll_cons hA
  obtain ⟨v1, vs1, d1, ds1, p1, q1, rfl, rfl, rfl, h1, r1⟩ := trodAll_cons r0
  obtain ⟨v2, vs2, d2, ds2, p2, q2, rfl, rfl, rfl, h2, r2⟩ := trodAll_cons r1
  obtain ⟨v3, vs3, d3, ds3, p3, q3, rfl, rfl, rfl, h3, r3⟩ := trodAll_cons r2
  obtain ⟨rfl, rfl, rfl⟩ := trodAll_nil r3
  obtain rfl : args = #[v0, v1, v2, v3] := by cases args; simp_all
  obtain ⟨rfl, rfl⟩ := trodVars_none hV
  have k0 := h0
  have lt0 : ∀ x ∈ p0, x.block < W.heap.size := by obtain ⟨m, hm⟩ := k0; exact DataW.trod_lt m _ _ _ hm
  obtain ⟨c0_0, c0_1, c0_2, c0_3, y0_0, y0_1, y0_2, y0_3, m0, rfl, hd0, hp0, hy0_0, hy0_1, hy0_2, hy0_3⟩ := open_agg4 Try.underlying23 (by kernel_rfl) cells23 (hval 0 23 v0 rfl rfl) h0
  obtain ⟨a0_0, e0_0, -, w0_0⟩ := DataW.trod_int Try.underlying3 hy0_0
  simp at e0_0
  subst e0_0
  obtain ⟨a0_1, e0_1, -, w0_1⟩ := DataW.trod_int Try.underlying3 hy0_1
  simp at e0_1
  subst e0_1
  obtain ⟨a0_2, e0_2, -, w0_2⟩ := DataW.trod_int Try.underlying3 hy0_2
  simp at e0_2
  subst e0_2
  obtain ⟨a0_3, e0_3, -, w0_3⟩ := DataW.trod_int Try.underlying3 hy0_3
  simp at e0_3
  subst e0_3
  clear hd0 hp0
  have k1 := h1
  have lt1 : ∀ x ∈ p1, x.block < W.heap.size := by obtain ⟨m, hm⟩ := k1; exact DataW.trod_lt m _ _ _ hm
  obtain ⟨b1, n1, cap1, rfl⟩ := okWide_slice Try.underlying49 (hval 1 49 v1 rfl rfl)
  obtain ⟨S1, rfl, hS1⟩ := rowsT h1 (fun el sp he => sized_slice hsz (j := 1) (t := 49) rfl (by rw [he]; rfl) Try.underlying49)
  have k2 := h2
  have lt2 : ∀ x ∈ p2, x.block < W.heap.size := by obtain ⟨m, hm⟩ := k2; exact DataW.trod_lt m _ _ _ hm
  obtain ⟨b2, n2, cap2, rfl⟩ := okWide_slice Try.underlying49 (hval 2 49 v2 rfl rfl)
  obtain ⟨S2, rfl, hS2⟩ := rowsT h2 (fun el sp he => sized_slice hsz (j := 2) (t := 49) rfl (by rw [he]; rfl) Try.underlying49)
  obtain ⟨a3, rfl, rfl, rfl, w3⟩ := open_int Try.underlying3 (hval 3 3 v3 rfl rfl) h3
  clear hA0 hval0
  refine (walk a0_0 a0_1 a0_2 a0_3 b1 cap1 S1 b2 cap2 S2 a3 W w0_0 w0_1 w0_2 w0_3 hS1 hS2 w3).mono fun e W' ⟨he, bel⟩ => ?_
  subst he
  exact ⟨_, rfl, _, _, _, [], _, [], hW', trodAll_mk1 (shut_bool Try.underlying4 _), (trodAll_cons_mk (Below.trod laidOut (by kernel_rfl) (of_decide_eq_true (by kernel_rfl)) k0 bel lt0) (trodAll_cons_mk (Below.trod laidOut (by kernel_rfl) (of_decide_eq_true (by kernel_rfl)) k1 bel lt1) (trodAll_cons_mk (Below.trod laidOut (by kernel_rfl) (of_decide_eq_true (by kernel_rfl)) k2 bel lt2) (trodAll_cons_mk (shut_int Try.underlying3 w3) trodAll_mk0)))), rfl, bel.frame _, fun h => by cases h⟩

theorem over : Rows.cacheTablesRow.holds Try.pinned (OpenSpec.ofChange Rows.cacheTablesSpec) :=
  OpenClaim.holds_of_wide 9 Try.f9 rfl rfl rfl rfl rfl rfl rfl ⟨rfl, rfl, rfl, rfl, rfl⟩ rfl rfl rfl rfl rfl (by kernel_rfl) Try.func9 (by kernel_rfl)
    (of_decide_eq_true (by kernel_rfl)) (by unfold Func.isWrapper; first | (rw [if_pos (by decide +kernel)]; kernel_rfl) | (rw [if_neg (by decide +kernel)]; exact ⟨rfl, rfl⟩))
    (fun os started H enc _ => lifted os started H enc)

/-- the statement -/
theorem proved : Rows.CacheTablesSaid := over
end Go.Proofs.Ytmjnakhpekbenaa.cacheTables
