/-
  The statement CacheHolds: for every tables, state and address the law returns true.
  Conditions: none beyond those of the given row.
-/
import Derived.Test.YtmjnakhpekbenaaCacheHoldsE
import Derived.Test.YtmjnakhpekbenaaRows
import Derived.ProofKit
import Derived.OpenShut
import Derived.ShutString
import Derived.ChangeOld
import Derived.Lib.SmallJoins
set_option linter.unusedVariables false
set_option linter.unusedSimpArgs false
namespace Go.Proofs.Ytmjnakhpekbenaa.cacheHolds
open Go.ChangeShapes Go.WideShapes Go.ChangeAt Go.RowKit Go.Joins
open Go.ChangeMaps (open_string shut_string)
open Fw Ca

set_option maxRecDepth 20000 in
set_option maxHeartbeats 4000000 in
theorem walk (s y l m : Int) (p : Option Addr) (cp : Nat) (t : List T2) (p2 : Option Addr) (cp2 : Nat) (u : List T2) (o1 : Option Addr) (co : Nat) (ot : List T2) (o2 : Option Addr) (co2 : Nat) (ou : List T2) (p3 : Option Addr) (cp3 : Nat) (S : List SlI) (a : Int) (w : World) (w0 : (Lit.int .i64 s).wf = true) (w1 : (Lit.int .i64 y).wf = true) (w2 : (Lit.int .i64 l).wf = true) (w3 : (Lit.int .i64 m).wf = true) (hT : TbIn w p t) (hU : TbIn w p2 u) (hT2 : TbIn w o1 ot) (hU2 : TbIn w o2 ou) (hS : StIn w p3 S) (w9 : (Lit.int .i64 a).wf = true) :
    Calls Try.prog 10 #[.agg #[vI s, vI y, vI l, vI m], .slice p t.length cp, .slice p2 u.length cp2, .slice o1 ot.length co, .slice o2 ou.length co2, .slice p3 S.length cp3, vI a] w fun e w' => e = .returned (.bool true) ∧ Below w.heap.size w w' := by
  refine calls_of Try.func10 rfl (m := 165) rfl [(0, .agg #[vI s, vI y, vI l, vI m]), (1, .slice p t.length cp), (2, .slice p2 u.length cp2), (3, .slice o1 ot.length co), (4, .slice o2 ou.length co2), (5, .slice p3 S.length cp3), (6, vI a)] (Fr_enter [.agg #[vI s, vI y, vI l, vI m], .slice p t.length cp, .slice p2 u.length cp2, .slice o1 ot.length co, .slice o2 ou.length co2, .slice p3 S.length cp3, vI a] 165 (Nat.le_of_ble_eq_true rfl)) ?_
  have hH1 : HP Tr w w [] := HP.refl w
  refine WC.seq fun K2 hK2 => WC.region ?_
  refine WL.alloc (c := #[vI s, vI y, vI l, vI m]) (T := 23) hH1 7 rfl (by decide) rfl rfl (fun b7 => vP b7 0) (by kernel_rfl) (fun b7 w3 hw3 => ?_)
  have hH4 : HP Tr w w3 [.cel b7 #[vI s, vI y, vI l, vI m] 23] := hw3.2
  have nb7 := hw3.1
  clear hw3
  refine WL.z (v := .bool false) 14 ?_
  refine WL.nil (WQ.then (hK2 _ _ _ (WC.seq fun K5 hK5 => WC.region ?_)))
  refine WL.y (v := .agg #[vI s, vI y, vI l, vI m]) 35 (x_loadS (cs := [vI s, vI y, vI l, vI m]) rfl rfl Try.underlying23 rfl sz23 (HP.range hH4 0 rfl rfl)) ?_
  refine WL.z (v := .slice p t.length cp) 36 ?_
  refine WL.z (v := .slice p2 u.length cp2) 37 ?_
  refine WL.z (v := .slice p3 S.length cp3) 38 ?_
  rcases Bool.eq_false_or_eq_true (holC s y l m t u (stX S)) with hc | hc
  ·
    obtain ⟨hp1, hp2, hp3⟩ := hol_parts hc
    rcases Bool.eq_false_or_eq_true (holV s y t u (stX S)) with hv | hv
    ·
      refine WL.call (f := 39) (args := #[.agg #[vI s, vI y, vI l, vI m], .slice p t.length cp, .slice p2 u.length cp2, .slice p3 S.length cp3]) 39 rfl (Nat.le_of_ble_eq_true rfl) rfl rfl (by kernel_rfl) ?_
      refine (Hol_yes (hol3_any s y l m p t cp p2 u cp2 p3 S cp3 _ (hT.below (HP.below hH4)).inn (hU.below (HP.below hH4)).inn (hS.below (HP.below hH4)).inn (tb_len hT) (tb_len hU) rfl (smX_in hS)) hc hv).mono ?_
      rintro e w6 ⟨rfl, hb7⟩
      refine ⟨_, rfl, ?_⟩
      have hH8 : HP Tr w _ [.cel b7 #[vI s, vI y, vI l, vI m] 23] := HP.call hH4 hb7
      refine WL.z (v := .tuple #[.bool true, vI 0]) 34 ?_
      refine WL.z (v := .bool true) 40 ?_
      refine WL.z (v := vI 0) 41 ?_
      refine WL.z (v := .bool true) 15 ?_
      refine WL.z (v := vI 0) 16 ?_
      refine WL.nil (WQ.then (hK5 _ _ _ ?_))
      refine WC.sub (l' := [(0, .agg #[vI s, vI y, vI l, vI m]), (1, .slice p t.length cp), (2, .slice p2 u.length cp2), (3, .slice o1 ot.length co), (4, .slice o2 ou.length co2), (5, .slice p3 S.length cp3), (6, vI a), (7, vP b7 0), (14, .bool false), (15, .bool true), (16, vI 0)]) ⟨rfl, rfl, rfl, rfl, rfl, rfl, rfl, rfl, rfl, rfl, rfl, trivial⟩ ?_
      refine WC.seq fun K9 hK9 => WC.region ?_
      refine WL.y (v := .agg #[vI s, vI y, vI l, vI m]) 43 (x_loadS (cs := [vI s, vI y, vI l, vI m]) rfl rfl Try.underlying23 rfl sz23 (HP.range hH8 0 rfl rfl)) ?_
      refine WL.z (v := .slice p t.length cp) 44 ?_
      refine WL.z (v := .slice p2 u.length cp2) 45 ?_
      refine WL.z (v := .slice p3 S.length cp3) 46 ?_
      refine WL.call (f := 40) (args := #[.agg #[vI s, vI y, vI l, vI m], .slice p t.length cp, .slice p2 u.length cp2, .slice p3 S.length cp3]) 47 rfl (Nat.le_of_ble_eq_true rfl) rfl rfl (by kernel_rfl) ?_
      refine (Hol_yes (rHolds_any s y l m p t cp p2 u cp2 p3 S cp3 _ (hT.below (HP.below hH8)).inn (hU.below (HP.below hH8)).inn (hS.below (HP.below hH8)).inn (tb_len hT) (tb_len hU) (by have := hS.len; omega)) hc hv).mono ?_
      rintro e w10 ⟨rfl, hb11⟩
      refine ⟨_, rfl, ?_⟩
      have hH12 : HP Tr w _ [.cel b7 #[vI s, vI y, vI l, vI m] 23] := HP.call hH8 hb11
      refine WL.z (v := .tuple #[.bool true, vI 0]) 42 ?_
      refine WL.z (v := .bool true) 48 ?_
      refine WL.z (v := vI 0) 49 ?_
      refine WL.z (v := .bool true) 17 ?_
      refine WL.z (v := vI 0) 18 ?_
      refine WL.nil (WQ.then (hK9 _ _ _ ?_))
      refine WC.sub (l' := [(0, .agg #[vI s, vI y, vI l, vI m]), (1, .slice p t.length cp), (2, .slice p2 u.length cp2), (3, .slice o1 ot.length co), (4, .slice o2 ou.length co2), (5, .slice p3 S.length cp3), (6, vI a), (7, vP b7 0), (14, .bool false), (15, .bool true), (16, vI 0), (17, .bool true), (18, vI 0)]) ⟨rfl, rfl, rfl, rfl, rfl, rfl, rfl, rfl, rfl, rfl, rfl, rfl, rfl, trivial⟩ ?_
      refine WC.seq fun K13 hK13 => WC.seq fun K14 hK14 => WC.region ?_
      refine WL.z (v := .bool true) 50 ?_
      refine WL.z (v := .bool true) 51 ?_
      refine WL.y (v := .bool false) 52 (x_neqb rfl rfl rfl Try.underlying4 (by simp)) ?_
      refine WL.z (v := .bool false) 53 ?_
      refine WL.z (v := vI 0) 54 ?_
      refine WL.z (v := vI 0) 55 ?_
      refine WL.y (v := .bool false) 56 (x_neq rfl rfl rfl (by decide)) ?_
      refine WL.z (v := .bool false) 57 ?_
      refine WL.nil (WQ.then (hK14 _ _ _ ?_))
      refine WC.sub (l' := [(0, .agg #[vI s, vI y, vI l, vI m]), (1, .slice p t.length cp), (2, .slice p2 u.length cp2), (3, .slice o1 ot.length co), (4, .slice o2 ou.length co2), (5, .slice p3 S.length cp3), (6, vI a), (7, vP b7 0), (14, .bool false), (15, .bool true), (16, vI 0), (17, .bool true), (18, vI 0), (57, .bool false)]) ⟨rfl, rfl, rfl, rfl, rfl, rfl, rfl, rfl, rfl, rfl, rfl, rfl, rfl, rfl, trivial⟩ ?_
      refine WC.no rfl (WC.skip (WQ.then (hK13 _ _ _ (WC.seq fun K15 hK15 => WC.seq fun K16 hK16 => WC.region ?_))))
      refine WL.z (v := vI 0) 58 ?_
      refine WL.y (v := .bool false) 59 (x_neq rfl rfl rfl (by decide)) ?_
      refine WL.z (v := .bool false) 60 ?_
      refine WL.z (v := .bool true) 61 ?_
      refine WL.z (v := .bool false) 62 ?_
      refine WL.z (v := .bool false) 63 ?_
      refine WL.nil (WQ.then (hK16 _ _ _ (WC.no rfl (WC.skip (WQ.then (hK15 _ _ _ (WC.seq fun K17 hK17 => ?_)))))))
      refine WC.seq fun K18 hK18 => WC.region ?_
      refine WL.z (v := vI a) 65 ?_
      by_cases h66 : (0 : Int) ≤ a
      ·
        refine WL.y (v := .bool true) 66 (x_geq rfl rfl rfl (dT (h66))) ?_
        refine WL.z (v := .bool true) 67 ?_
        refine WL.z (v := vI a) 68 ?_
        by_cases h69 : a ≤ 999
        ·
          refine WL.y (v := .bool true) 69 (x_leq rfl rfl rfl (dT (h69))) ?_
          refine WL.z (v := .bool true) 70 ?_
          refine WL.nil (WQ.then (hK18 _ _ _ ?_))
          refine WC.sub (l' := [(0, .agg #[vI s, vI y, vI l, vI m]), (1, .slice p t.length cp), (2, .slice p2 u.length cp2), (3, .slice o1 ot.length co), (4, .slice o2 ou.length co2), (5, .slice p3 S.length cp3), (6, vI a), (7, vP b7 0), (14, .bool false), (15, .bool true), (16, vI 0), (17, .bool true), (18, vI 0), (57, .bool false), (63, .bool false), (70, .bool true)]) ⟨rfl, rfl, rfl, rfl, rfl, rfl, rfl, rfl, rfl, rfl, rfl, rfl, rfl, rfl, rfl, rfl, trivial⟩ ?_
          refine WC.yes rfl (WC.seq fun K19 hK19 => WC.region ?_)
          refine WL.y (v := .agg #[vI s, vI y, vI l, vI m]) 72 (x_loadS (cs := [vI s, vI y, vI l, vI m]) rfl rfl Try.underlying23 rfl sz23 (HP.range hH12 0 rfl rfl)) ?_
          refine WL.z (v := .slice p t.length cp) 73 ?_
          refine WL.z (v := vI a) 74 ?_
          have hT3 := holds_touch hc hv ⟨h66, h69⟩
          obtain ⟨hp4, hp5, -⟩ := hol_parts hT3.1
          have W1 := ok_VT hp4
          have W2 := ok_VT hp5
          refine WL.call (f := 30) (args := #[.agg #[vI s, vI y, vI l, vI m], .slice p t.length cp, vI a]) 75 rfl (Nat.le_of_ble_eq_true rfl) rfl rfl (by kernel_rfl) ?_
          refine (Ta_in (TouchMust_any p t cp s y l m a _ (hT.below (HP.below hH12)).inn (tb_len hT)) (by unfold taC; rw [hp1, wn_iff.2 ⟨h66, h69⟩]; rfl)).mono ?_
          rintro e wq1 ⟨q1, c1, rfl, hQ1, hb⟩
          refine ⟨_, rfl, ?_⟩
          have hH20 : HP Tr w _ [.cel b7 #[vI s, vI y, vI l, vI m] 23] := HP.call hH12 hb
          have hbw1 := HP.below hH20
          have hbox1 : ∀ i9, i9 < 1 → World.rangeAt wq1 b7 i9 [vI s, vI y, vI l, vI m] := fun i9 h9 => match i9, h9 with | 0, _ => HP.range hH20 0 rfl rfl | n + 1, h9 => absurd h9 (by omega)
          replace hT := hT.below hbw1
          replace hU := hU.below hbw1
          replace hT2 := hT2.below hbw1
          replace hU2 := hU2.below hbw1
          replace hS := hS.below hbw1
          have hBk1 := HP.call (HP.refl (S := Tr) w) hbw1
          have hH21 : HP Tr wq1 wq1 [] := HP.refl wq1
          refine WL.z (v := .tuple #[.slice q1 ((tcH s y (a / l) 0 t).length) c1, vI 0]) 71 ?_
          refine WL.z (v := .slice q1 ((tcH s y (a / l) 0 t).length) c1) 76 ?_
          refine WL.z (v := vI 0) 77 ?_
          refine WL.z (v := .slice q1 ((tcH s y (a / l) 0 t).length) c1) 19 ?_
          refine WL.z (v := vI 0) 20 ?_
          refine WL.nil (WQ.then (hK19 _ _ _ ?_))
          refine WC.sub (l' := [(0, .agg #[vI s, vI y, vI l, vI m]), (1, .slice p t.length cp), (2, .slice p2 u.length cp2), (3, .slice o1 ot.length co), (4, .slice o2 ou.length co2), (5, .slice p3 S.length cp3), (6, vI a), (7, vP b7 0), (14, .bool false), (15, .bool true), (16, vI 0), (17, .bool true), (18, vI 0), (19, .slice q1 ((tcH s y (a / l) 0 t).length) c1), (20, vI 0), (57, .bool false), (63, .bool false), (70, .bool true)]) ⟨rfl, rfl, rfl, rfl, rfl, rfl, rfl, rfl, rfl, rfl, rfl, rfl, rfl, rfl, rfl, rfl, rfl, rfl, trivial⟩ ?_
          refine WC.seq fun K22 hK22 => WC.region ?_
          refine WL.y (v := .agg #[vI s, vI y, vI l, vI m]) 79 (x_loadS (cs := [vI s, vI y, vI l, vI m]) rfl rfl Try.underlying23 rfl sz23 (HP.oldRange hH21 trivial (hbox1 0 (by omega)))) ?_
          refine WL.z (v := .slice p2 u.length cp2) 80 ?_
          refine WL.z (v := vI a) 81 ?_
          refine WL.call (f := 32) (args := #[.agg #[vI s, vI y, vI l, vI m], .slice p2 u.length cp2, vI a]) 82 rfl (Nat.le_of_ble_eq_true rfl) rfl rfl (by kernel_rfl) ?_
          refine (Ta_in (TouchMay_any p2 u cp2 s y l m a _ (hU.below (HP.below hH21)).inn (tb_len hU)) (by unfold taC; rw [hp2, wn_iff.2 ⟨h66, h69⟩]; rfl)).mono ?_
          rintro e wq2 ⟨q2, c2, rfl, hQ2, hb⟩
          refine ⟨_, rfl, ?_⟩
          have hH23 : HP Tr wq1 _ [] := HP.call hH21 hb
          have hbw2 := HP.below hH23
          have hbox2 : ∀ i9, i9 < 1 → World.rangeAt wq2 b7 i9 [vI s, vI y, vI l, vI m] := fun i9 h9 => HP.oldRange hH23 trivial (hbox1 i9 h9)
          replace hT := hT.below hbw2
          replace hU := hU.below hbw2
          replace hT2 := hT2.below hbw2
          replace hU2 := hU2.below hbw2
          replace hS := hS.below hbw2
          replace hQ1 := hQ1.below hbw2
          have hBk2 := HP.call hBk1 hbw2
          have hH24 : HP Tr wq2 wq2 [] := HP.refl wq2
          refine WL.z (v := .tuple #[.slice q2 ((tcH s y (a / l) 1 u).length) c2, vI 0]) 78 ?_
          refine WL.z (v := .slice q2 ((tcH s y (a / l) 1 u).length) c2) 83 ?_
          refine WL.z (v := vI 0) 84 ?_
          refine WL.z (v := .slice q2 ((tcH s y (a / l) 1 u).length) c2) 21 ?_
          refine WL.z (v := vI 0) 22 ?_
          refine WL.nil (WQ.then (hK22 _ _ _ ?_))
          refine WC.sub (l' := [(0, .agg #[vI s, vI y, vI l, vI m]), (1, .slice p t.length cp), (2, .slice p2 u.length cp2), (3, .slice o1 ot.length co), (4, .slice o2 ou.length co2), (5, .slice p3 S.length cp3), (6, vI a), (7, vP b7 0), (14, .bool false), (15, .bool true), (16, vI 0), (17, .bool true), (18, vI 0), (19, .slice q1 ((tcH s y (a / l) 0 t).length) c1), (20, vI 0), (21, .slice q2 ((tcH s y (a / l) 1 u).length) c2), (22, vI 0), (57, .bool false), (63, .bool false), (70, .bool true)]) ⟨rfl, rfl, rfl, rfl, rfl, rfl, rfl, rfl, rfl, rfl, rfl, rfl, rfl, rfl, rfl, rfl, rfl, rfl, rfl, rfl, trivial⟩ ?_
          refine WC.seq fun K25 hK25 => ?_
          have htk : tOk s y l m a (stX S) = true := tOk_iff.2 ⟨hp3, h66, h69⟩
          refine WC.confG (γ := Option Addr × Nat × List SlI × Option Addr × Nat × List SlI × Unit) [(0, .agg #[vI s, vI y, vI l, vI m]), (1, .slice p t.length cp), (2, .slice p2 u.length cp2), (3, .slice o1 ot.length co), (4, .slice o2 ou.length co2), (5, .slice p3 S.length cp3), (6, vI a), (7, vP b7 0), (14, .bool false), (15, .bool true), (16, vI 0), (17, .bool true), (18, vI 0), (19, .slice q1 ((tcH s y (a / l) 0 t).length) c1), (20, vI 0), (21, .slice q2 ((tcH s y (a / l) 1 u).length) c2), (22, vI 0), (57, .bool false), (63, .bool false), (70, .bool true)] (fun gy => [.agg #[vI s, vI y, vI l, vI m], .slice p3 S.length cp3, .slice gy.1 gy.2.2.1.length gy.2.1, vI a, .tuple #[.slice gy.2.2.2.1 gy.2.2.2.2.2.1.length gy.2.2.2.2.1, .bool (decide (hitN s l a (stX S) = 1)), vI 0], .tuple #[.slice gy.2.2.2.1 gy.2.2.2.2.2.1.length gy.2.2.2.2.1, .bool (decide (hitN s l a (stX S) = 1)), vI 0], .slice gy.2.2.2.1 gy.2.2.2.2.2.1.length gy.2.2.2.2.1, .bool (decide (hitN s l a (stX S) = 1)), vI 0, .slice gy.2.2.2.1 gy.2.2.2.2.2.1.length gy.2.2.2.2.1, .bool (decide (hitN s l a (stX S) = 1)), vI 0]) (fun gy D wz => HP Tr wq2 wz [] ∧ (D 2 = true → (stX gy.2.2.1 = stX S ∧ InS2 wz gy.1 gy.2.2.1)) ∧ (D 4 = true → (stX gy.2.2.2.2.2.1 = stp s y l a (stX S) ∧ InS2 wz gy.2.2.2.1 gy.2.2.2.2.2.1))) (none, 0, [], none, 0, [], ()) (by kernel_rfl) ⟨rfl, rfl, rfl, rfl, rfl, rfl, rfl, rfl, rfl, rfl, rfl, rfl, rfl, rfl, rfl, rfl, rfl, rfl, rfl, rfl, trivial⟩ (by kernel_rfl) (by kernel_rfl) (by kernel_rfl) (fun _ => rfl) (by kernel_rfl) (⟨HP.drew hH24, (fun h => by cases h), (fun h => by cases h)⟩) ?_ ?_
          · refine AllOk.cons ?o0 (AllOk.cons ?o1 (AllOk.cons ?o2 (AllOk.cons ?o3 (AllOk.cons ?o4 (AllOk.cons ?o5 (AllOk.cons ?o6 (AllOk.cons ?o7 (AllOk.cons ?o8 (AllOk.cons ?o9 (AllOk.cons ?o10 (AllOk.cons ?o11 (AllOk.nil _))))))))))))
            case o0 =>
              rintro gy D wz hDi hdep hclo ⟨hW, hX0, hX1⟩
              exact .inl ⟨rfl, rfl, .inl ⟨gy, wz, fun _ _ => rfl, x_loadS (cs := [vI s, vI y, vI l, vI m]) rfl rfl Try.underlying23 rfl sz23 (HP.oldRange hW trivial (hbox2 0 (by omega))), ⟨hW, hX0, hX1⟩⟩⟩
            case o1 =>
              rintro gy D wz hDi hdep hclo ⟨hW, hX0, hX1⟩
              exact .inl ⟨rfl, rfl, .inl ⟨gy, wz, fun _ _ => rfl, by kernel_rfl, ⟨hW, hX0, hX1⟩⟩⟩
            case o2 =>
              rintro gy D wz hDi hdep hclo ⟨hW, hX0, hX1⟩
              have hW2 := hW
              try simp only [hDi, cond_true, cond_false, List.append_nil, List.nil_append, List.cons_append] at hW2
              refine .inl ⟨rfl, rfl, .inr (.inr ⟨11, #[.slice p3 S.length cp3], by kernel_rfl, (own3_any p3 S cp3 _ (hS.below (HP.below hW2))).mono ?_⟩)⟩
              rintro e w3 ⟨pt, ct, S1, rfl, hXo, hIo, hbo⟩
              have hA := HP.call hW2 hbo
              refine ⟨⟨pt, ct, S1, gy.2.2.2.1, gy.2.2.2.2.1, gy.2.2.2.2.2.1, ()⟩, fun j hj => ?_, rfl, ⟨?_, fun _ => ⟨hXo, hIo⟩, fun h9 => ⟨(hX1 h9).1, (hX1 h9).2.below hbo⟩⟩⟩
              · match j, hj with
                | 0, hj => rfl
                | 1, hj => rfl
                | 2, hj => rw [hDi] at hj; cases hj
                | 3, hj => rfl
                | 4, hj => rfl
                | 5, hj => rfl
                | 6, hj => rfl
                | 7, hj => rfl
                | 8, hj => rfl
                | 9, hj => rfl
                | 10, hj => rfl
                | 11, hj => rfl
                | j + 12, _ => rfl
              · show HP Tr wq2 w3 []
                try simp only [cond_true, cond_false, List.append_nil, List.nil_append, List.cons_append]
                exact hA
            case o3 =>
              rintro gy D wz hDi hdep hclo ⟨hW, hX0, hX1⟩
              exact .inl ⟨rfl, rfl, .inl ⟨gy, wz, fun _ _ => rfl, by kernel_rfl, ⟨hW, hX0, hX1⟩⟩⟩
            case o4 =>
              rintro gy D wz hDi hdep hclo ⟨hW, hX0, hX1⟩
              have d2 : D 2 = true := hdep ⟨2, .data⟩ (by simp) rfl
              have d5 : D 5 = false := by
                cases h : D 5 with
                | false => rfl
                | true => exact absurd (hclo 5 _ rfl h ⟨4, .data⟩ (by simp) rfl) (by rw [hDi]; exact Bool.false_ne_true)
              have d6 : D 6 = false := by
                cases h : D 6 with
                | false => rfl
                | true => exact absurd (hclo 6 _ rfl h ⟨5, .data⟩ (by simp) rfl) (by rw [d5]; exact Bool.false_ne_true)
              have d9 : D 9 = false := by
                cases h : D 9 with
                | false => rfl
                | true => exact absurd (hclo 9 _ rfl h ⟨4, .chain⟩ (by simp) rfl) (by rw [hDi]; exact Bool.false_ne_true)
              have hW2 := hW
              try simp only [hDi, cond_true, cond_false, List.append_nil, List.nil_append, List.cons_append] at hW2
              refine .inl ⟨rfl, rfl, .inr (.inr ⟨12, #[.agg #[vI s, vI y, vI l, vI m], .slice gy.1 gy.2.2.1.length gy.2.1, vI a], by kernel_rfl, (Touch_yes s y l m a gy.1 gy.2.2.1 gy.2.1 _ (hX0 d2).2 (hX0 d2).1 htk).mono ?_⟩)⟩
              rintro e w3 ⟨pa, ca, S2, rfl, hXr, hIr, hbr⟩
              have hA := HP.call hW2 hbr
              refine ⟨⟨gy.1, gy.2.1, gy.2.2.1, pa, ca, S2, ()⟩, fun j hj => ?_, rfl, ⟨?_, fun h9 => ⟨(hX0 h9).1, (hX0 h9).2.below hbr⟩, fun _ => ⟨hXr, hIr⟩⟩⟩
              · match j, hj with
                | 0, hj => rfl
                | 1, hj => rfl
                | 2, hj => rfl
                | 3, hj => rfl
                | 4, hj => rw [hDi] at hj; cases hj
                | 5, hj => exact absurd hj (by rw [d5]; exact Bool.false_ne_true)
                | 6, hj => exact absurd hj (by rw [d6]; exact Bool.false_ne_true)
                | 7, hj => rfl
                | 8, hj => rfl
                | 9, hj => exact absurd hj (by rw [d9]; exact Bool.false_ne_true)
                | 10, hj => rfl
                | 11, hj => rfl
                | j + 12, _ => rfl
              · show HP Tr wq2 w3 []
                try simp only [cond_true, cond_false, List.append_nil, List.nil_append, List.cons_append]
                exact hA
            case o5 =>
              rintro gy D wz hDi hdep hclo ⟨hW, hX0, hX1⟩
              exact .inl ⟨rfl, rfl, .inl ⟨gy, wz, fun _ _ => rfl, by kernel_rfl, ⟨hW, hX0, hX1⟩⟩⟩
            case o6 =>
              rintro gy D wz hDi hdep hclo ⟨hW, hX0, hX1⟩
              exact .inl ⟨rfl, rfl, .inl ⟨gy, wz, fun _ _ => rfl, by kernel_rfl, ⟨hW, hX0, hX1⟩⟩⟩
            case o7 =>
              rintro gy D wz hDi hdep hclo ⟨hW, hX0, hX1⟩
              exact .inl ⟨rfl, rfl, .inl ⟨gy, wz, fun _ _ => rfl, by kernel_rfl, ⟨hW, hX0, hX1⟩⟩⟩
            case o8 =>
              rintro gy D wz hDi hdep hclo ⟨hW, hX0, hX1⟩
              exact .inl ⟨rfl, rfl, .inl ⟨gy, wz, fun _ _ => rfl, by kernel_rfl, ⟨hW, hX0, hX1⟩⟩⟩
            case o9 =>
              rintro gy D wz hDi hdep hclo ⟨hW, hX0, hX1⟩
              exact .inl ⟨rfl, rfl, .inl ⟨gy, wz, fun _ _ => rfl, by kernel_rfl, ⟨hW, hX0, hX1⟩⟩⟩
            case o10 =>
              rintro gy D wz hDi hdep hclo ⟨hW, hX0, hX1⟩
              exact .inl ⟨rfl, rfl, .inl ⟨gy, wz, fun _ _ => rfl, by kernel_rfl, ⟨hW, hX0, hX1⟩⟩⟩
            case o11 =>
              rintro gy D wz hDi hdep hclo ⟨hW, hX0, hX1⟩
              exact .inl ⟨rfl, rfl, .inl ⟨gy, wz, fun _ _ => rfl, by kernel_rfl, ⟨hW, hX0, hX1⟩⟩⟩
          rintro ⟨pt, ct, S1, pa, ca, S2, gu⟩ D w26 hall ⟨hH27, hX0, hX1⟩
          have hO1 := hX0 (hall 2 (by kernel_rfl))
          clear hX0
          have hO2 := hX1 (hall 4 (by kernel_rfl))
          clear hX1
          clear hall
          refine WQ.sub (l' := [(0, .agg #[vI s, vI y, vI l, vI m]), (1, .slice p t.length cp), (2, .slice p2 u.length cp2), (3, .slice o1 ot.length co), (4, .slice o2 ou.length co2), (5, .slice p3 S.length cp3), (6, vI a), (7, vP b7 0), (14, .bool false), (15, .bool true), (16, vI 0), (17, .bool true), (18, vI 0), (19, .slice q1 ((tcH s y (a / l) 0 t).length) c1), (20, vI 0), (21, .slice q2 ((tcH s y (a / l) 1 u).length) c2), (22, vI 0), (23, .slice pa S2.length ca), (25, vI 0), (57, .bool false), (63, .bool false), (70, .bool true)]) ⟨rfl, rfl, rfl, rfl, rfl, rfl, rfl, rfl, rfl, rfl, rfl, rfl, rfl, rfl, rfl, rfl, rfl, rfl, rfl, rfl, rfl, rfl, trivial⟩ ?_
          obtain ⟨hX2, hI2⟩ := hO2
          have hbw3 := HP.below hH27
          have hbox3 : ∀ i9, i9 < 1 → World.rangeAt w26 b7 i9 [vI s, vI y, vI l, vI m] := fun i9 h9 => HP.oldRange hH27 trivial (hbox2 i9 h9)
          replace hT := hT.below hbw3
          replace hU := hU.below hbw3
          replace hT2 := hT2.below hbw3
          replace hU2 := hU2.below hbw3
          replace hS := hS.below hbw3
          replace hQ1 := hQ1.below hbw3
          replace hQ2 := hQ2.below hbw3
          have hBk3 := HP.call hBk2 hbw3
          have hH28 : HP Tr w26 w26 [] := HP.refl w26
          refine WQ.then (hK25 _ _ _ (WC.seq fun K29 hK29 => WC.region ?_))
          refine WL.y (v := .agg #[vI s, vI y, vI l, vI m]) 95 (x_loadS (cs := [vI s, vI y, vI l, vI m]) rfl rfl Try.underlying23 rfl sz23 (HP.oldRange hH28 trivial (hbox3 0 (by omega)))) ?_
          refine WL.z (v := .slice q1 ((tcH s y (a / l) 0 t).length) c1) 96 ?_
          refine WL.z (v := .slice q2 ((tcH s y (a / l) 1 u).length) c2) 97 ?_
          refine WL.z (v := .slice pa S2.length ca) 98 ?_
          refine WL.call (f := 39) (args := #[.agg #[vI s, vI y, vI l, vI m], .slice q1 ((tcH s y (a / l) 0 t).length) c1, .slice q2 ((tcH s y (a / l) 1 u).length) c2, .slice pa S2.length ca]) 99 rfl (Nat.le_of_ble_eq_true rfl) rfl rfl (by kernel_rfl) ?_
          refine (Hol_yes (hol3_any s y l m q1 (tcH s y (a / l) 0 t) c1 q2 (tcH s y (a / l) 1 u) c2 pa S2 ca _ (hQ1.below (HP.below hH28)) (hQ2.below (HP.below hH28)) (hI2.below (HP.below hH28)) (len_le W1.len) (len_le W2.len) hX2 (smX_ok (okSt_stp hp3 ⟨h66, h69⟩))) hT3.1 hT3.2).mono ?_
          rintro e w30 ⟨rfl, hb31⟩
          refine ⟨_, rfl, ?_⟩
          have hH32 : HP Tr w26 _ [] := HP.call hH28 hb31
          refine WL.z (v := .tuple #[.bool true, vI 0]) 94 ?_
          refine WL.z (v := .bool true) 100 ?_
          refine WL.z (v := vI 0) 101 ?_
          refine WL.z (v := .bool true) 26 ?_
          refine WL.z (v := vI 0) 27 ?_
          refine WL.nil (WQ.then (hK29 _ _ _ ?_))
          refine WC.sub (l' := [(0, .agg #[vI s, vI y, vI l, vI m]), (1, .slice p t.length cp), (2, .slice p2 u.length cp2), (3, .slice o1 ot.length co), (4, .slice o2 ou.length co2), (5, .slice p3 S.length cp3), (6, vI a), (7, vP b7 0), (14, .bool false), (15, .bool true), (16, vI 0), (17, .bool true), (18, vI 0), (19, .slice q1 ((tcH s y (a / l) 0 t).length) c1), (20, vI 0), (21, .slice q2 ((tcH s y (a / l) 1 u).length) c2), (22, vI 0), (23, .slice pa S2.length ca), (25, vI 0), (26, .bool true), (27, vI 0), (57, .bool false), (63, .bool false), (70, .bool true)]) ⟨rfl, rfl, rfl, rfl, rfl, rfl, rfl, rfl, rfl, rfl, rfl, rfl, rfl, rfl, rfl, rfl, rfl, rfl, rfl, rfl, rfl, rfl, rfl, rfl, trivial⟩ ?_
          refine WC.seq fun K33 hK33 => WC.region ?_
          refine WL.z (v := vI 0) 102 ?_
          refine WL.y (v := .bool false) 103 (x_neq rfl rfl rfl (by decide)) ?_
          refine WL.z (v := .bool false) 104 ?_
          refine WL.z (v := vI 0) 105 ?_
          refine WL.y (v := .bool false) 106 (x_neq rfl rfl rfl (by decide)) ?_
          refine WL.z (v := .bool false) 107 ?_
          refine WL.z (v := .bool false) 108 ?_
          refine WL.z (v := vI 0) 109 ?_
          refine WL.y (v := .bool false) 110 (x_neq rfl rfl rfl (by decide)) ?_
          refine WL.z (v := .bool false) 111 ?_
          refine WL.z (v := .bool false) 112 ?_
          refine WL.z (v := vI 0) 113 ?_
          refine WL.y (v := .bool false) 114 (x_neq rfl rfl rfl (by decide)) ?_
          refine WL.z (v := .bool false) 115 ?_
          refine WL.z (v := .bool false) 116 ?_
          refine WL.z (v := .bool true) 117 ?_
          refine WL.z (v := .bool false) 118 ?_
          refine WL.z (v := .bool false) 119 ?_
          refine WL.nil (WQ.then (hK33 _ _ _ ?_))
          refine WC.sub (l' := [(0, .agg #[vI s, vI y, vI l, vI m]), (1, .slice p t.length cp), (2, .slice p2 u.length cp2), (3, .slice o1 ot.length co), (4, .slice o2 ou.length co2), (5, .slice p3 S.length cp3), (6, vI a), (7, vP b7 0), (14, .bool false), (15, .bool true), (16, vI 0), (17, .bool true), (18, vI 0), (19, .slice q1 ((tcH s y (a / l) 0 t).length) c1), (20, vI 0), (21, .slice q2 ((tcH s y (a / l) 1 u).length) c2), (22, vI 0), (23, .slice pa S2.length ca), (25, vI 0), (26, .bool true), (27, vI 0), (57, .bool false), (63, .bool false), (70, .bool true), (119, .bool false)]) ⟨rfl, rfl, rfl, rfl, rfl, rfl, rfl, rfl, rfl, rfl, rfl, rfl, rfl, rfl, rfl, rfl, rfl, rfl, rfl, rfl, rfl, rfl, rfl, rfl, rfl, trivial⟩ ?_
          refine WC.no rfl (WC.skip (WQ.then (hK17 _ _ _ (WC.seq fun K34 hK34 => WC.seq fun K35 hK35 => WC.region ?_))))
          refine WL.y (v := .agg #[vI s, vI y, vI l, vI m]) 120 (x_loadS (cs := [vI s, vI y, vI l, vI m]) rfl rfl Try.underlying23 rfl sz23 (HP.oldRange hH32 trivial (hbox3 0 (by omega)))) ?_
          refine WL.z (v := .slice o1 ot.length co) 121 ?_
          rcases Bool.eq_false_or_eq_true (okT s y l m ot) with hq1 | hq1
          ·
            refine WL.call (f := 41) (args := #[.agg #[vI s, vI y, vI l, vI m], .slice o1 ot.length co]) 122 rfl (Nat.le_of_ble_eq_true rfl) rfl rfl (by kernel_rfl) ?_
            refine (IsTable_at hq1 o1 co _ (hT2.below (HP.below hH32)).inn (tb_len hT2)).mono ?_
            rintro e w36 ⟨rfl, hb37⟩
            refine ⟨_, rfl, ?_⟩
            have hH38 : HP Tr w26 _ [] := HP.call hH32 hb37
            refine WL.z (v := .bool true) 123 ?_
            refine WL.y (v := .agg #[vI s, vI y, vI l, vI m]) 124 (x_loadS (cs := [vI s, vI y, vI l, vI m]) rfl rfl Try.underlying23 rfl sz23 (HP.oldRange hH38 trivial (hbox3 0 (by omega)))) ?_
            refine WL.z (v := .slice o2 ou.length co2) 125 ?_
            rcases Bool.eq_false_or_eq_true (okT s y l m ou) with hq2 | hq2
            ·
              refine WL.call (f := 41) (args := #[.agg #[vI s, vI y, vI l, vI m], .slice o2 ou.length co2]) 126 rfl (Nat.le_of_ble_eq_true rfl) rfl rfl (by kernel_rfl) ?_
              refine (IsTable_at hq2 o2 co2 _ (hU2.below (HP.below hH38)).inn (tb_len hU2)).mono ?_
              rintro e w39 ⟨rfl, hb40⟩
              refine ⟨_, rfl, ?_⟩
              have hH41 : HP Tr w26 _ [] := HP.call hH38 hb40
              refine WL.z (v := .bool true) 127 ?_
              refine WL.nil (WQ.then (hK35 _ _ _ ?_))
              refine WC.sub (l' := [(0, .agg #[vI s, vI y, vI l, vI m]), (1, .slice p t.length cp), (2, .slice p2 u.length cp2), (3, .slice o1 ot.length co), (4, .slice o2 ou.length co2), (5, .slice p3 S.length cp3), (6, vI a), (7, vP b7 0), (14, .bool false), (15, .bool true), (16, vI 0), (17, .bool true), (18, vI 0), (19, .slice q1 ((tcH s y (a / l) 0 t).length) c1), (20, vI 0), (21, .slice q2 ((tcH s y (a / l) 1 u).length) c2), (22, vI 0), (23, .slice pa S2.length ca), (25, vI 0), (26, .bool true), (27, vI 0), (57, .bool false), (63, .bool false), (70, .bool true), (119, .bool false), (127, .bool true)]) ⟨rfl, rfl, rfl, rfl, rfl, rfl, rfl, rfl, rfl, rfl, rfl, rfl, rfl, rfl, rfl, rfl, rfl, rfl, rfl, rfl, rfl, rfl, rfl, rfl, rfl, rfl, trivial⟩ ?_
              refine WC.yes rfl (WC.seq fun K42 hK42 => WC.region ?_)
              refine WL.y (v := .agg #[vI s, vI y, vI l, vI m]) 129 (x_loadS (cs := [vI s, vI y, vI l, vI m]) rfl rfl Try.underlying23 rfl sz23 (HP.oldRange hH41 trivial (hbox3 0 (by omega)))) ?_
              refine WL.z (v := .slice p t.length cp) 130 ?_
              refine WL.z (v := .slice o1 ot.length co) 131 ?_
              have hJ3 := holds_join hc hv hq1 hq2
              obtain ⟨hp6, hp7, -⟩ := hol_parts hJ3.1
              have W5 := ok_VT hp6
              have W6 := ok_VT hp7
              refine WL.call (f := 35) (args := #[.agg #[vI s, vI y, vI l, vI m], .slice p t.length cp, .slice o1 ot.length co]) 132 rfl (Nat.le_of_ble_eq_true rfl) rfl rfl (by kernel_rfl) ?_
              refine (Jo_in (JoinMust_any p o1 t ot cp co s y l m _ (hT.below (HP.below hH41)).inn (hT2.below (HP.below hH41)).inn (tb_len hT) (tb_len hT2)) (by unfold joC; rw [hp1, hq1]; rfl)).mono ?_
              rintro e wq5 ⟨q5, c5, rfl, hQ5, hb⟩
              refine ⟨_, rfl, ?_⟩
              have hH43 : HP Tr w26 _ [] := HP.call hH41 hb
              have hbw4 := HP.below hH43
              have hbox4 : ∀ i9, i9 < 1 → World.rangeAt wq5 b7 i9 [vI s, vI y, vI l, vI m] := fun i9 h9 => HP.oldRange hH43 trivial (hbox3 i9 h9)
              replace hT := hT.below hbw4
              replace hU := hU.below hbw4
              replace hT2 := hT2.below hbw4
              replace hU2 := hU2.below hbw4
              replace hS := hS.below hbw4
              replace hQ1 := hQ1.below hbw4
              replace hQ2 := hQ2.below hbw4
              replace hI2 := hI2.below hbw4
              have hBk4 := HP.call hBk3 hbw4
              have hH44 : HP Tr wq5 wq5 [] := HP.refl wq5
              refine WL.z (v := .tuple #[.slice q5 ((rJ false t ot).length) c5, vI 0]) 128 ?_
              refine WL.z (v := .slice q5 ((rJ false t ot).length) c5) 133 ?_
              refine WL.z (v := vI 0) 134 ?_
              refine WL.z (v := .slice q5 ((rJ false t ot).length) c5) 28 ?_
              refine WL.z (v := vI 0) 29 ?_
              refine WL.nil (WQ.then (hK42 _ _ _ ?_))
              refine WC.sub (l' := [(0, .agg #[vI s, vI y, vI l, vI m]), (1, .slice p t.length cp), (2, .slice p2 u.length cp2), (3, .slice o1 ot.length co), (4, .slice o2 ou.length co2), (5, .slice p3 S.length cp3), (6, vI a), (7, vP b7 0), (14, .bool false), (15, .bool true), (16, vI 0), (17, .bool true), (18, vI 0), (19, .slice q1 ((tcH s y (a / l) 0 t).length) c1), (20, vI 0), (21, .slice q2 ((tcH s y (a / l) 1 u).length) c2), (22, vI 0), (23, .slice pa S2.length ca), (25, vI 0), (26, .bool true), (27, vI 0), (28, .slice q5 ((rJ false t ot).length) c5), (29, vI 0), (57, .bool false), (63, .bool false), (70, .bool true), (119, .bool false), (127, .bool true)]) ⟨rfl, rfl, rfl, rfl, rfl, rfl, rfl, rfl, rfl, rfl, rfl, rfl, rfl, rfl, rfl, rfl, rfl, rfl, rfl, rfl, rfl, rfl, rfl, rfl, rfl, rfl, rfl, rfl, trivial⟩ ?_
              refine WC.seq fun K45 hK45 => WC.region ?_
              refine WL.y (v := .agg #[vI s, vI y, vI l, vI m]) 136 (x_loadS (cs := [vI s, vI y, vI l, vI m]) rfl rfl Try.underlying23 rfl sz23 (HP.oldRange hH44 trivial (hbox4 0 (by omega)))) ?_
              refine WL.z (v := .slice o2 ou.length co2) 137 ?_
              refine WL.z (v := .slice p2 u.length cp2) 138 ?_
              refine WL.call (f := 37) (args := #[.agg #[vI s, vI y, vI l, vI m], .slice o2 ou.length co2, .slice p2 u.length cp2]) 139 rfl (Nat.le_of_ble_eq_true rfl) rfl rfl (by kernel_rfl) ?_
              refine (Jo_in (JoinMay_any o2 p2 ou u co2 cp2 s y l m _ (hU2.below (HP.below hH44)).inn (hU.below (HP.below hH44)).inn (tb_len hU2) (tb_len hU)) (by unfold joC; rw [hq2, hp2]; rfl)).mono ?_
              rintro e wq6 ⟨q6, c6, rfl, hQ6, hb⟩
              refine ⟨_, rfl, ?_⟩
              have hH46 : HP Tr wq5 _ [] := HP.call hH44 hb
              have hbw5 := HP.below hH46
              have hbox5 : ∀ i9, i9 < 1 → World.rangeAt wq6 b7 i9 [vI s, vI y, vI l, vI m] := fun i9 h9 => HP.oldRange hH46 trivial (hbox4 i9 h9)
              replace hT := hT.below hbw5
              replace hU := hU.below hbw5
              replace hT2 := hT2.below hbw5
              replace hU2 := hU2.below hbw5
              replace hS := hS.below hbw5
              replace hQ1 := hQ1.below hbw5
              replace hQ2 := hQ2.below hbw5
              replace hI2 := hI2.below hbw5
              replace hQ5 := hQ5.below hbw5
              have hBk5 := HP.call hBk4 hbw5
              have hH47 : HP Tr wq6 wq6 [] := HP.refl wq6
              refine WL.z (v := .tuple #[.slice q6 ((rJ true ou u).length) c6, vI 0]) 135 ?_
              refine WL.z (v := .slice q6 ((rJ true ou u).length) c6) 140 ?_
              refine WL.z (v := vI 0) 141 ?_
              refine WL.z (v := .slice q6 ((rJ true ou u).length) c6) 30 ?_
              refine WL.z (v := vI 0) 31 ?_
              refine WL.nil (WQ.then (hK45 _ _ _ ?_))
              refine WC.sub (l' := [(0, .agg #[vI s, vI y, vI l, vI m]), (1, .slice p t.length cp), (2, .slice p2 u.length cp2), (3, .slice o1 ot.length co), (4, .slice o2 ou.length co2), (5, .slice p3 S.length cp3), (6, vI a), (7, vP b7 0), (14, .bool false), (15, .bool true), (16, vI 0), (17, .bool true), (18, vI 0), (19, .slice q1 ((tcH s y (a / l) 0 t).length) c1), (20, vI 0), (21, .slice q2 ((tcH s y (a / l) 1 u).length) c2), (22, vI 0), (23, .slice pa S2.length ca), (25, vI 0), (26, .bool true), (27, vI 0), (28, .slice q5 ((rJ false t ot).length) c5), (29, vI 0), (30, .slice q6 ((rJ true ou u).length) c6), (31, vI 0), (57, .bool false), (63, .bool false), (70, .bool true), (119, .bool false), (127, .bool true)]) ⟨rfl, rfl, rfl, rfl, rfl, rfl, rfl, rfl, rfl, rfl, rfl, rfl, rfl, rfl, rfl, rfl, rfl, rfl, rfl, rfl, rfl, rfl, rfl, rfl, rfl, rfl, rfl, rfl, rfl, rfl, trivial⟩ ?_
              refine WC.seq fun K48 hK48 => WC.region ?_
              refine WL.y (v := .agg #[vI s, vI y, vI l, vI m]) 143 (x_loadS (cs := [vI s, vI y, vI l, vI m]) rfl rfl Try.underlying23 rfl sz23 (HP.oldRange hH47 trivial (hbox5 0 (by omega)))) ?_
              refine WL.z (v := .slice q5 ((rJ false t ot).length) c5) 144 ?_
              refine WL.z (v := .slice q6 ((rJ true ou u).length) c6) 145 ?_
              refine WL.z (v := .slice p3 S.length cp3) 146 ?_
              refine WL.call (f := 39) (args := #[.agg #[vI s, vI y, vI l, vI m], .slice q5 ((rJ false t ot).length) c5, .slice q6 ((rJ true ou u).length) c6, .slice p3 S.length cp3]) 147 rfl (Nat.le_of_ble_eq_true rfl) rfl rfl (by kernel_rfl) ?_
              refine (Hol_yes (hol3_any s y l m q5 (rJ false t ot) c5 q6 (rJ true ou u) c6 p3 S cp3 _ (hQ5.below (HP.below hH47)) (hQ6.below (HP.below hH47)) (hS.below (HP.below hH47)).inn (len_le W5.len) (len_le W6.len) rfl (smX_in hS)) hJ3.1 hJ3.2).mono ?_
              rintro e w49 ⟨rfl, hb50⟩
              refine ⟨_, rfl, ?_⟩
              have hH51 : HP Tr wq6 _ [] := HP.call hH47 hb50
              refine WL.z (v := .tuple #[.bool true, vI 0]) 142 ?_
              refine WL.z (v := .bool true) 148 ?_
              refine WL.z (v := vI 0) 149 ?_
              refine WL.z (v := .bool true) 32 ?_
              refine WL.z (v := vI 0) 33 ?_
              refine WL.nil (WQ.then (hK48 _ _ _ ?_))
              refine WC.sub (l' := [(0, .agg #[vI s, vI y, vI l, vI m]), (1, .slice p t.length cp), (2, .slice p2 u.length cp2), (3, .slice o1 ot.length co), (4, .slice o2 ou.length co2), (5, .slice p3 S.length cp3), (6, vI a), (7, vP b7 0), (14, .bool false), (15, .bool true), (16, vI 0), (17, .bool true), (18, vI 0), (19, .slice q1 ((tcH s y (a / l) 0 t).length) c1), (20, vI 0), (21, .slice q2 ((tcH s y (a / l) 1 u).length) c2), (22, vI 0), (23, .slice pa S2.length ca), (25, vI 0), (26, .bool true), (27, vI 0), (28, .slice q5 ((rJ false t ot).length) c5), (29, vI 0), (30, .slice q6 ((rJ true ou u).length) c6), (31, vI 0), (32, .bool true), (33, vI 0), (57, .bool false), (63, .bool false), (70, .bool true), (119, .bool false), (127, .bool true)]) ⟨rfl, rfl, rfl, rfl, rfl, rfl, rfl, rfl, rfl, rfl, rfl, rfl, rfl, rfl, rfl, rfl, rfl, rfl, rfl, rfl, rfl, rfl, rfl, rfl, rfl, rfl, rfl, rfl, rfl, rfl, rfl, rfl, trivial⟩ ?_
              refine WC.seq fun K52 hK52 => WC.region ?_
              refine WL.z (v := vI 0) 150 ?_
              refine WL.y (v := .bool false) 151 (x_neq rfl rfl rfl (by decide)) ?_
              refine WL.z (v := .bool false) 152 ?_
              refine WL.z (v := vI 0) 153 ?_
              refine WL.y (v := .bool false) 154 (x_neq rfl rfl rfl (by decide)) ?_
              refine WL.z (v := .bool false) 155 ?_
              refine WL.z (v := .bool false) 156 ?_
              refine WL.z (v := vI 0) 157 ?_
              refine WL.y (v := .bool false) 158 (x_neq rfl rfl rfl (by decide)) ?_
              refine WL.z (v := .bool false) 159 ?_
              refine WL.z (v := .bool false) 160 ?_
              refine WL.z (v := .bool true) 161 ?_
              refine WL.z (v := .bool false) 162 ?_
              refine WL.z (v := .bool false) 163 ?_
              refine WL.nil (WQ.then (hK52 _ _ _ ?_))
              refine WC.sub (l' := [(0, .agg #[vI s, vI y, vI l, vI m]), (1, .slice p t.length cp), (2, .slice p2 u.length cp2), (3, .slice o1 ot.length co), (4, .slice o2 ou.length co2), (5, .slice p3 S.length cp3), (6, vI a), (7, vP b7 0), (14, .bool false), (15, .bool true), (16, vI 0), (17, .bool true), (18, vI 0), (19, .slice q1 ((tcH s y (a / l) 0 t).length) c1), (20, vI 0), (21, .slice q2 ((tcH s y (a / l) 1 u).length) c2), (22, vI 0), (23, .slice pa S2.length ca), (25, vI 0), (26, .bool true), (27, vI 0), (28, .slice q5 ((rJ false t ot).length) c5), (29, vI 0), (30, .slice q6 ((rJ true ou u).length) c6), (31, vI 0), (32, .bool true), (33, vI 0), (57, .bool false), (63, .bool false), (70, .bool true), (119, .bool false), (127, .bool true), (163, .bool false)]) ⟨rfl, rfl, rfl, rfl, rfl, rfl, rfl, rfl, rfl, rfl, rfl, rfl, rfl, rfl, rfl, rfl, rfl, rfl, rfl, rfl, rfl, rfl, rfl, rfl, rfl, rfl, rfl, rfl, rfl, rfl, rfl, rfl, rfl, trivial⟩ ?_
              refine WC.no rfl (WC.skip (WQ.then (hK34 _ _ _ (WC.seq fun K53 hK53 => WC.region ?_))))
              refine WL.call (f := 16) (args := #[]) 164 rfl (Nat.le_of_ble_eq_true rfl) rfl rfl (by kernel_rfl) ?_
              refine (sane_any _).mono ?_
              rintro e w54 ⟨rfl, hb55⟩
              refine ⟨_, rfl, ?_⟩
              have hH56 : HP Tr wq6 _ [] := HP.call hH51 hb55
              refine WL.z (v := .bool true) 14 ?_
              refine WL.nil (WQ.then (hK53 _ _ _ (WC.ret ?_)))
              refine WQ.ret1 14 rfl rfl ?_
              exact ⟨rfl, HP.below (HP.call hBk5 (HP.below hH56))⟩
            ·
              refine WL.call (f := 41) (args := #[.agg #[vI s, vI y, vI l, vI m], .slice o2 ou.length co2]) 126 rfl (Nat.le_of_ble_eq_true rfl) rfl rfl (by kernel_rfl) ?_
              refine (IsTable_at hq2 o2 co2 _ (hU2.below (HP.below hH38)).inn (tb_len hU2)).mono ?_
              rintro e w57 ⟨rfl, hb58⟩
              refine ⟨_, rfl, ?_⟩
              have hH59 : HP Tr w26 _ [] := HP.call hH38 hb58
              refine WL.z (v := .bool false) 127 ?_
              refine WL.nil (WQ.then (hK35 _ _ _ ?_))
              refine WC.sub (l' := [(0, .agg #[vI s, vI y, vI l, vI m]), (1, .slice p t.length cp), (2, .slice p2 u.length cp2), (3, .slice o1 ot.length co), (4, .slice o2 ou.length co2), (5, .slice p3 S.length cp3), (6, vI a), (7, vP b7 0), (14, .bool false), (15, .bool true), (16, vI 0), (17, .bool true), (18, vI 0), (19, .slice q1 ((tcH s y (a / l) 0 t).length) c1), (20, vI 0), (21, .slice q2 ((tcH s y (a / l) 1 u).length) c2), (22, vI 0), (23, .slice pa S2.length ca), (25, vI 0), (26, .bool true), (27, vI 0), (57, .bool false), (63, .bool false), (70, .bool true), (119, .bool false), (127, .bool false)]) ⟨rfl, rfl, rfl, rfl, rfl, rfl, rfl, rfl, rfl, rfl, rfl, rfl, rfl, rfl, rfl, rfl, rfl, rfl, rfl, rfl, rfl, rfl, rfl, rfl, rfl, rfl, trivial⟩ ?_
              refine WC.no rfl (WC.skip (WQ.then (hK34 _ _ _ (WC.seq fun K60 hK60 => WC.region ?_))))
              refine WL.call (f := 16) (args := #[]) 164 rfl (Nat.le_of_ble_eq_true rfl) rfl rfl (by kernel_rfl) ?_
              refine (sane_any _).mono ?_
              rintro e w61 ⟨rfl, hb62⟩
              refine ⟨_, rfl, ?_⟩
              have hH63 : HP Tr w26 _ [] := HP.call hH59 hb62
              refine WL.z (v := .bool true) 14 ?_
              refine WL.nil (WQ.then (hK60 _ _ _ (WC.ret ?_)))
              refine WQ.ret1 14 rfl rfl ?_
              exact ⟨rfl, HP.below (HP.call hBk3 (HP.below hH63))⟩
          ·
            refine WL.call (f := 41) (args := #[.agg #[vI s, vI y, vI l, vI m], .slice o1 ot.length co]) 122 rfl (Nat.le_of_ble_eq_true rfl) rfl rfl (by kernel_rfl) ?_
            refine (IsTable_at hq1 o1 co _ (hT2.below (HP.below hH32)).inn (tb_len hT2)).mono ?_
            rintro e w64 ⟨rfl, hb65⟩
            refine ⟨_, rfl, ?_⟩
            have hH66 : HP Tr w26 _ [] := HP.call hH32 hb65
            refine WL.z (v := .bool false) 123 ?_
            refine WL.p 124 ?_
            refine WL.p 125 ?_
            refine WL.p 126 ?_
            refine WL.z (v := .bool false) 127 ?_
            refine WL.nil (WQ.then (hK35 _ _ _ ?_))
            refine WC.sub (l' := [(0, .agg #[vI s, vI y, vI l, vI m]), (1, .slice p t.length cp), (2, .slice p2 u.length cp2), (3, .slice o1 ot.length co), (4, .slice o2 ou.length co2), (5, .slice p3 S.length cp3), (6, vI a), (7, vP b7 0), (14, .bool false), (15, .bool true), (16, vI 0), (17, .bool true), (18, vI 0), (19, .slice q1 ((tcH s y (a / l) 0 t).length) c1), (20, vI 0), (21, .slice q2 ((tcH s y (a / l) 1 u).length) c2), (22, vI 0), (23, .slice pa S2.length ca), (25, vI 0), (26, .bool true), (27, vI 0), (57, .bool false), (63, .bool false), (70, .bool true), (119, .bool false), (127, .bool false)]) ⟨rfl, rfl, rfl, rfl, rfl, rfl, rfl, rfl, rfl, rfl, rfl, rfl, rfl, rfl, rfl, rfl, rfl, rfl, rfl, rfl, rfl, rfl, rfl, rfl, rfl, rfl, trivial⟩ ?_
            refine WC.no rfl (WC.skip (WQ.then (hK34 _ _ _ (WC.seq fun K67 hK67 => WC.region ?_))))
            refine WL.call (f := 16) (args := #[]) 164 rfl (Nat.le_of_ble_eq_true rfl) rfl rfl (by kernel_rfl) ?_
            refine (sane_any _).mono ?_
            rintro e w68 ⟨rfl, hb69⟩
            refine ⟨_, rfl, ?_⟩
            have hH70 : HP Tr w26 _ [] := HP.call hH66 hb69
            refine WL.z (v := .bool true) 14 ?_
            refine WL.nil (WQ.then (hK67 _ _ _ (WC.ret ?_)))
            refine WQ.ret1 14 rfl rfl ?_
            exact ⟨rfl, HP.below (HP.call hBk3 (HP.below hH70))⟩
        ·
          refine WL.y (v := .bool false) 69 (x_leq rfl rfl rfl (dF (h69))) ?_
          refine WL.z (v := .bool false) 70 ?_
          refine WL.nil (WQ.then (hK18 _ _ _ ?_))
          refine WC.sub (l' := [(0, .agg #[vI s, vI y, vI l, vI m]), (1, .slice p t.length cp), (2, .slice p2 u.length cp2), (3, .slice o1 ot.length co), (4, .slice o2 ou.length co2), (5, .slice p3 S.length cp3), (6, vI a), (7, vP b7 0), (14, .bool false), (15, .bool true), (16, vI 0), (17, .bool true), (18, vI 0), (57, .bool false), (63, .bool false), (70, .bool false)]) ⟨rfl, rfl, rfl, rfl, rfl, rfl, rfl, rfl, rfl, rfl, rfl, rfl, rfl, rfl, rfl, rfl, trivial⟩ ?_
          refine WC.no rfl (WC.skip (WQ.then (hK17 _ _ _ (WC.seq fun K71 hK71 => WC.seq fun K72 hK72 => WC.region ?_))))
          refine WL.y (v := .agg #[vI s, vI y, vI l, vI m]) 120 (x_loadS (cs := [vI s, vI y, vI l, vI m]) rfl rfl Try.underlying23 rfl sz23 (HP.range hH12 0 rfl rfl)) ?_
          refine WL.z (v := .slice o1 ot.length co) 121 ?_
          rcases Bool.eq_false_or_eq_true (okT s y l m ot) with hq1 | hq1
          ·
            refine WL.call (f := 41) (args := #[.agg #[vI s, vI y, vI l, vI m], .slice o1 ot.length co]) 122 rfl (Nat.le_of_ble_eq_true rfl) rfl rfl (by kernel_rfl) ?_
            refine (IsTable_at hq1 o1 co _ (hT2.below (HP.below hH12)).inn (tb_len hT2)).mono ?_
            rintro e w73 ⟨rfl, hb74⟩
            refine ⟨_, rfl, ?_⟩
            have hH75 : HP Tr w _ [.cel b7 #[vI s, vI y, vI l, vI m] 23] := HP.call hH12 hb74
            refine WL.z (v := .bool true) 123 ?_
            refine WL.y (v := .agg #[vI s, vI y, vI l, vI m]) 124 (x_loadS (cs := [vI s, vI y, vI l, vI m]) rfl rfl Try.underlying23 rfl sz23 (HP.range hH75 0 rfl rfl)) ?_
            refine WL.z (v := .slice o2 ou.length co2) 125 ?_
            rcases Bool.eq_false_or_eq_true (okT s y l m ou) with hq2 | hq2
            ·
              refine WL.call (f := 41) (args := #[.agg #[vI s, vI y, vI l, vI m], .slice o2 ou.length co2]) 126 rfl (Nat.le_of_ble_eq_true rfl) rfl rfl (by kernel_rfl) ?_
              refine (IsTable_at hq2 o2 co2 _ (hU2.below (HP.below hH75)).inn (tb_len hU2)).mono ?_
              rintro e w76 ⟨rfl, hb77⟩
              refine ⟨_, rfl, ?_⟩
              have hH78 : HP Tr w _ [.cel b7 #[vI s, vI y, vI l, vI m] 23] := HP.call hH75 hb77
              refine WL.z (v := .bool true) 127 ?_
              refine WL.nil (WQ.then (hK72 _ _ _ ?_))
              refine WC.sub (l' := [(0, .agg #[vI s, vI y, vI l, vI m]), (1, .slice p t.length cp), (2, .slice p2 u.length cp2), (3, .slice o1 ot.length co), (4, .slice o2 ou.length co2), (5, .slice p3 S.length cp3), (6, vI a), (7, vP b7 0), (14, .bool false), (15, .bool true), (16, vI 0), (17, .bool true), (18, vI 0), (57, .bool false), (63, .bool false), (70, .bool false), (127, .bool true)]) ⟨rfl, rfl, rfl, rfl, rfl, rfl, rfl, rfl, rfl, rfl, rfl, rfl, rfl, rfl, rfl, rfl, rfl, trivial⟩ ?_
              refine WC.yes rfl (WC.seq fun K79 hK79 => WC.region ?_)
              refine WL.y (v := .agg #[vI s, vI y, vI l, vI m]) 129 (x_loadS (cs := [vI s, vI y, vI l, vI m]) rfl rfl Try.underlying23 rfl sz23 (HP.range hH78 0 rfl rfl)) ?_
              refine WL.z (v := .slice p t.length cp) 130 ?_
              refine WL.z (v := .slice o1 ot.length co) 131 ?_
              have hJ3 := holds_join hc hv hq1 hq2
              obtain ⟨hp6, hp7, -⟩ := hol_parts hJ3.1
              have W5 := ok_VT hp6
              have W6 := ok_VT hp7
              refine WL.call (f := 35) (args := #[.agg #[vI s, vI y, vI l, vI m], .slice p t.length cp, .slice o1 ot.length co]) 132 rfl (Nat.le_of_ble_eq_true rfl) rfl rfl (by kernel_rfl) ?_
              refine (Jo_in (JoinMust_any p o1 t ot cp co s y l m _ (hT.below (HP.below hH78)).inn (hT2.below (HP.below hH78)).inn (tb_len hT) (tb_len hT2)) (by unfold joC; rw [hp1, hq1]; rfl)).mono ?_
              rintro e wq5 ⟨q5, c5, rfl, hQ5, hb⟩
              refine ⟨_, rfl, ?_⟩
              have hH80 : HP Tr w _ [.cel b7 #[vI s, vI y, vI l, vI m] 23] := HP.call hH78 hb
              have hbw1 := HP.below hH80
              have hbox1 : ∀ i9, i9 < 1 → World.rangeAt wq5 b7 i9 [vI s, vI y, vI l, vI m] := fun i9 h9 => match i9, h9 with | 0, _ => HP.range hH80 0 rfl rfl | n + 1, h9 => absurd h9 (by omega)
              replace hT := hT.below hbw1
              replace hU := hU.below hbw1
              replace hT2 := hT2.below hbw1
              replace hU2 := hU2.below hbw1
              replace hS := hS.below hbw1
              have hBk1 := HP.call (HP.refl (S := Tr) w) hbw1
              have hH81 : HP Tr wq5 wq5 [] := HP.refl wq5
              refine WL.z (v := .tuple #[.slice q5 ((rJ false t ot).length) c5, vI 0]) 128 ?_
              refine WL.z (v := .slice q5 ((rJ false t ot).length) c5) 133 ?_
              refine WL.z (v := vI 0) 134 ?_
              refine WL.z (v := .slice q5 ((rJ false t ot).length) c5) 28 ?_
              refine WL.z (v := vI 0) 29 ?_
              refine WL.nil (WQ.then (hK79 _ _ _ ?_))
              refine WC.sub (l' := [(0, .agg #[vI s, vI y, vI l, vI m]), (1, .slice p t.length cp), (2, .slice p2 u.length cp2), (3, .slice o1 ot.length co), (4, .slice o2 ou.length co2), (5, .slice p3 S.length cp3), (6, vI a), (7, vP b7 0), (14, .bool false), (15, .bool true), (16, vI 0), (17, .bool true), (18, vI 0), (28, .slice q5 ((rJ false t ot).length) c5), (29, vI 0), (57, .bool false), (63, .bool false), (70, .bool false), (127, .bool true)]) ⟨rfl, rfl, rfl, rfl, rfl, rfl, rfl, rfl, rfl, rfl, rfl, rfl, rfl, rfl, rfl, rfl, rfl, rfl, rfl, trivial⟩ ?_
              refine WC.seq fun K82 hK82 => WC.region ?_
              refine WL.y (v := .agg #[vI s, vI y, vI l, vI m]) 136 (x_loadS (cs := [vI s, vI y, vI l, vI m]) rfl rfl Try.underlying23 rfl sz23 (HP.oldRange hH81 trivial (hbox1 0 (by omega)))) ?_
              refine WL.z (v := .slice o2 ou.length co2) 137 ?_
              refine WL.z (v := .slice p2 u.length cp2) 138 ?_
              refine WL.call (f := 37) (args := #[.agg #[vI s, vI y, vI l, vI m], .slice o2 ou.length co2, .slice p2 u.length cp2]) 139 rfl (Nat.le_of_ble_eq_true rfl) rfl rfl (by kernel_rfl) ?_
              refine (Jo_in (JoinMay_any o2 p2 ou u co2 cp2 s y l m _ (hU2.below (HP.below hH81)).inn (hU.below (HP.below hH81)).inn (tb_len hU2) (tb_len hU)) (by unfold joC; rw [hq2, hp2]; rfl)).mono ?_
              rintro e wq6 ⟨q6, c6, rfl, hQ6, hb⟩
              refine ⟨_, rfl, ?_⟩
              have hH83 : HP Tr wq5 _ [] := HP.call hH81 hb
              have hbw2 := HP.below hH83
              have hbox2 : ∀ i9, i9 < 1 → World.rangeAt wq6 b7 i9 [vI s, vI y, vI l, vI m] := fun i9 h9 => HP.oldRange hH83 trivial (hbox1 i9 h9)
              replace hT := hT.below hbw2
              replace hU := hU.below hbw2
              replace hT2 := hT2.below hbw2
              replace hU2 := hU2.below hbw2
              replace hS := hS.below hbw2
              replace hQ5 := hQ5.below hbw2
              have hBk2 := HP.call hBk1 hbw2
              have hH84 : HP Tr wq6 wq6 [] := HP.refl wq6
              refine WL.z (v := .tuple #[.slice q6 ((rJ true ou u).length) c6, vI 0]) 135 ?_
              refine WL.z (v := .slice q6 ((rJ true ou u).length) c6) 140 ?_
              refine WL.z (v := vI 0) 141 ?_
              refine WL.z (v := .slice q6 ((rJ true ou u).length) c6) 30 ?_
              refine WL.z (v := vI 0) 31 ?_
              refine WL.nil (WQ.then (hK82 _ _ _ ?_))
              refine WC.sub (l' := [(0, .agg #[vI s, vI y, vI l, vI m]), (1, .slice p t.length cp), (2, .slice p2 u.length cp2), (3, .slice o1 ot.length co), (4, .slice o2 ou.length co2), (5, .slice p3 S.length cp3), (6, vI a), (7, vP b7 0), (14, .bool false), (15, .bool true), (16, vI 0), (17, .bool true), (18, vI 0), (28, .slice q5 ((rJ false t ot).length) c5), (29, vI 0), (30, .slice q6 ((rJ true ou u).length) c6), (31, vI 0), (57, .bool false), (63, .bool false), (70, .bool false), (127, .bool true)]) ⟨rfl, rfl, rfl, rfl, rfl, rfl, rfl, rfl, rfl, rfl, rfl, rfl, rfl, rfl, rfl, rfl, rfl, rfl, rfl, rfl, rfl, trivial⟩ ?_
              refine WC.seq fun K85 hK85 => WC.region ?_
              refine WL.y (v := .agg #[vI s, vI y, vI l, vI m]) 143 (x_loadS (cs := [vI s, vI y, vI l, vI m]) rfl rfl Try.underlying23 rfl sz23 (HP.oldRange hH84 trivial (hbox2 0 (by omega)))) ?_
              refine WL.z (v := .slice q5 ((rJ false t ot).length) c5) 144 ?_
              refine WL.z (v := .slice q6 ((rJ true ou u).length) c6) 145 ?_
              refine WL.z (v := .slice p3 S.length cp3) 146 ?_
              refine WL.call (f := 39) (args := #[.agg #[vI s, vI y, vI l, vI m], .slice q5 ((rJ false t ot).length) c5, .slice q6 ((rJ true ou u).length) c6, .slice p3 S.length cp3]) 147 rfl (Nat.le_of_ble_eq_true rfl) rfl rfl (by kernel_rfl) ?_
              refine (Hol_yes (hol3_any s y l m q5 (rJ false t ot) c5 q6 (rJ true ou u) c6 p3 S cp3 _ (hQ5.below (HP.below hH84)) (hQ6.below (HP.below hH84)) (hS.below (HP.below hH84)).inn (len_le W5.len) (len_le W6.len) rfl (smX_in hS)) hJ3.1 hJ3.2).mono ?_
              rintro e w86 ⟨rfl, hb87⟩
              refine ⟨_, rfl, ?_⟩
              have hH88 : HP Tr wq6 _ [] := HP.call hH84 hb87
              refine WL.z (v := .tuple #[.bool true, vI 0]) 142 ?_
              refine WL.z (v := .bool true) 148 ?_
              refine WL.z (v := vI 0) 149 ?_
              refine WL.z (v := .bool true) 32 ?_
              refine WL.z (v := vI 0) 33 ?_
              refine WL.nil (WQ.then (hK85 _ _ _ ?_))
              refine WC.sub (l' := [(0, .agg #[vI s, vI y, vI l, vI m]), (1, .slice p t.length cp), (2, .slice p2 u.length cp2), (3, .slice o1 ot.length co), (4, .slice o2 ou.length co2), (5, .slice p3 S.length cp3), (6, vI a), (7, vP b7 0), (14, .bool false), (15, .bool true), (16, vI 0), (17, .bool true), (18, vI 0), (28, .slice q5 ((rJ false t ot).length) c5), (29, vI 0), (30, .slice q6 ((rJ true ou u).length) c6), (31, vI 0), (32, .bool true), (33, vI 0), (57, .bool false), (63, .bool false), (70, .bool false), (127, .bool true)]) ⟨rfl, rfl, rfl, rfl, rfl, rfl, rfl, rfl, rfl, rfl, rfl, rfl, rfl, rfl, rfl, rfl, rfl, rfl, rfl, rfl, rfl, rfl, rfl, trivial⟩ ?_
              refine WC.seq fun K89 hK89 => WC.region ?_
              refine WL.z (v := vI 0) 150 ?_
              refine WL.y (v := .bool false) 151 (x_neq rfl rfl rfl (by decide)) ?_
              refine WL.z (v := .bool false) 152 ?_
              refine WL.z (v := vI 0) 153 ?_
              refine WL.y (v := .bool false) 154 (x_neq rfl rfl rfl (by decide)) ?_
              refine WL.z (v := .bool false) 155 ?_
              refine WL.z (v := .bool false) 156 ?_
              refine WL.z (v := vI 0) 157 ?_
              refine WL.y (v := .bool false) 158 (x_neq rfl rfl rfl (by decide)) ?_
              refine WL.z (v := .bool false) 159 ?_
              refine WL.z (v := .bool false) 160 ?_
              refine WL.z (v := .bool true) 161 ?_
              refine WL.z (v := .bool false) 162 ?_
              refine WL.z (v := .bool false) 163 ?_
              refine WL.nil (WQ.then (hK89 _ _ _ ?_))
              refine WC.sub (l' := [(0, .agg #[vI s, vI y, vI l, vI m]), (1, .slice p t.length cp), (2, .slice p2 u.length cp2), (3, .slice o1 ot.length co), (4, .slice o2 ou.length co2), (5, .slice p3 S.length cp3), (6, vI a), (7, vP b7 0), (14, .bool false), (15, .bool true), (16, vI 0), (17, .bool true), (18, vI 0), (28, .slice q5 ((rJ false t ot).length) c5), (29, vI 0), (30, .slice q6 ((rJ true ou u).length) c6), (31, vI 0), (32, .bool true), (33, vI 0), (57, .bool false), (63, .bool false), (70, .bool false), (127, .bool true), (163, .bool false)]) ⟨rfl, rfl, rfl, rfl, rfl, rfl, rfl, rfl, rfl, rfl, rfl, rfl, rfl, rfl, rfl, rfl, rfl, rfl, rfl, rfl, rfl, rfl, rfl, rfl, trivial⟩ ?_
              refine WC.no rfl (WC.skip (WQ.then (hK71 _ _ _ (WC.seq fun K90 hK90 => WC.region ?_))))
              refine WL.call (f := 16) (args := #[]) 164 rfl (Nat.le_of_ble_eq_true rfl) rfl rfl (by kernel_rfl) ?_
              refine (sane_any _).mono ?_
              rintro e w91 ⟨rfl, hb92⟩
              refine ⟨_, rfl, ?_⟩
              have hH93 : HP Tr wq6 _ [] := HP.call hH88 hb92
              refine WL.z (v := .bool true) 14 ?_
              refine WL.nil (WQ.then (hK90 _ _ _ (WC.ret ?_)))
              refine WQ.ret1 14 rfl rfl ?_
              exact ⟨rfl, HP.below (HP.call hBk2 (HP.below hH93))⟩
            ·
              refine WL.call (f := 41) (args := #[.agg #[vI s, vI y, vI l, vI m], .slice o2 ou.length co2]) 126 rfl (Nat.le_of_ble_eq_true rfl) rfl rfl (by kernel_rfl) ?_
              refine (IsTable_at hq2 o2 co2 _ (hU2.below (HP.below hH75)).inn (tb_len hU2)).mono ?_
              rintro e w94 ⟨rfl, hb95⟩
              refine ⟨_, rfl, ?_⟩
              have hH96 : HP Tr w _ [.cel b7 #[vI s, vI y, vI l, vI m] 23] := HP.call hH75 hb95
              refine WL.z (v := .bool false) 127 ?_
              refine WL.nil (WQ.then (hK72 _ _ _ ?_))
              refine WC.sub (l' := [(0, .agg #[vI s, vI y, vI l, vI m]), (1, .slice p t.length cp), (2, .slice p2 u.length cp2), (3, .slice o1 ot.length co), (4, .slice o2 ou.length co2), (5, .slice p3 S.length cp3), (6, vI a), (7, vP b7 0), (14, .bool false), (15, .bool true), (16, vI 0), (17, .bool true), (18, vI 0), (57, .bool false), (63, .bool false), (70, .bool false), (127, .bool false)]) ⟨rfl, rfl, rfl, rfl, rfl, rfl, rfl, rfl, rfl, rfl, rfl, rfl, rfl, rfl, rfl, rfl, rfl, trivial⟩ ?_
              refine WC.no rfl (WC.skip (WQ.then (hK71 _ _ _ (WC.seq fun K97 hK97 => WC.region ?_))))
              refine WL.call (f := 16) (args := #[]) 164 rfl (Nat.le_of_ble_eq_true rfl) rfl rfl (by kernel_rfl) ?_
              refine (sane_any _).mono ?_
              rintro e w98 ⟨rfl, hb99⟩
              refine ⟨_, rfl, ?_⟩
              have hH100 : HP Tr w _ [.cel b7 #[vI s, vI y, vI l, vI m] 23] := HP.call hH96 hb99
              refine WL.z (v := .bool true) 14 ?_
              refine WL.nil (WQ.then (hK97 _ _ _ (WC.ret ?_)))
              refine WQ.ret1 14 rfl rfl ?_
              exact ⟨rfl, HP.below (HP.call (HP.refl (S := Tr) w) (HP.below hH100))⟩
          ·
            refine WL.call (f := 41) (args := #[.agg #[vI s, vI y, vI l, vI m], .slice o1 ot.length co]) 122 rfl (Nat.le_of_ble_eq_true rfl) rfl rfl (by kernel_rfl) ?_
            refine (IsTable_at hq1 o1 co _ (hT2.below (HP.below hH12)).inn (tb_len hT2)).mono ?_
            rintro e w101 ⟨rfl, hb102⟩
            refine ⟨_, rfl, ?_⟩
            have hH103 : HP Tr w _ [.cel b7 #[vI s, vI y, vI l, vI m] 23] := HP.call hH12 hb102
            refine WL.z (v := .bool false) 123 ?_
            refine WL.p 124 ?_
            refine WL.p 125 ?_
            refine WL.p 126 ?_
            refine WL.z (v := .bool false) 127 ?_
            refine WL.nil (WQ.then (hK72 _ _ _ ?_))
            refine WC.sub (l' := [(0, .agg #[vI s, vI y, vI l, vI m]), (1, .slice p t.length cp), (2, .slice p2 u.length cp2), (3, .slice o1 ot.length co), (4, .slice o2 ou.length co2), (5, .slice p3 S.length cp3), (6, vI a), (7, vP b7 0), (14, .bool false), (15, .bool true), (16, vI 0), (17, .bool true), (18, vI 0), (57, .bool false), (63, .bool false), (70, .bool false), (127, .bool false)]) ⟨rfl, rfl, rfl, rfl, rfl, rfl, rfl, rfl, rfl, rfl, rfl, rfl, rfl, rfl, rfl, rfl, rfl, trivial⟩ ?_
            refine WC.no rfl (WC.skip (WQ.then (hK71 _ _ _ (WC.seq fun K104 hK104 => WC.region ?_))))
            refine WL.call (f := 16) (args := #[]) 164 rfl (Nat.le_of_ble_eq_true rfl) rfl rfl (by kernel_rfl) ?_
            refine (sane_any _).mono ?_
            rintro e w105 ⟨rfl, hb106⟩
            refine ⟨_, rfl, ?_⟩
            have hH107 : HP Tr w _ [.cel b7 #[vI s, vI y, vI l, vI m] 23] := HP.call hH103 hb106
            refine WL.z (v := .bool true) 14 ?_
            refine WL.nil (WQ.then (hK104 _ _ _ (WC.ret ?_)))
            refine WQ.ret1 14 rfl rfl ?_
            exact ⟨rfl, HP.below (HP.call (HP.refl (S := Tr) w) (HP.below hH107))⟩
      ·
        refine WL.y (v := .bool false) 66 (x_geq rfl rfl rfl (dF (h66))) ?_
        refine WL.z (v := .bool false) 67 ?_
        refine WL.p 68 ?_
        refine WL.p 69 ?_
        refine WL.z (v := .bool false) 70 ?_
        refine WL.nil (WQ.then (hK18 _ _ _ ?_))
        refine WC.sub (l' := [(0, .agg #[vI s, vI y, vI l, vI m]), (1, .slice p t.length cp), (2, .slice p2 u.length cp2), (3, .slice o1 ot.length co), (4, .slice o2 ou.length co2), (5, .slice p3 S.length cp3), (6, vI a), (7, vP b7 0), (14, .bool false), (15, .bool true), (16, vI 0), (17, .bool true), (18, vI 0), (57, .bool false), (63, .bool false), (70, .bool false)]) ⟨rfl, rfl, rfl, rfl, rfl, rfl, rfl, rfl, rfl, rfl, rfl, rfl, rfl, rfl, rfl, rfl, trivial⟩ ?_
        refine WC.no rfl (WC.skip (WQ.then (hK17 _ _ _ (WC.seq fun K108 hK108 => WC.seq fun K109 hK109 => WC.region ?_))))
        refine WL.y (v := .agg #[vI s, vI y, vI l, vI m]) 120 (x_loadS (cs := [vI s, vI y, vI l, vI m]) rfl rfl Try.underlying23 rfl sz23 (HP.range hH12 0 rfl rfl)) ?_
        refine WL.z (v := .slice o1 ot.length co) 121 ?_
        rcases Bool.eq_false_or_eq_true (okT s y l m ot) with hq1 | hq1
        ·
          refine WL.call (f := 41) (args := #[.agg #[vI s, vI y, vI l, vI m], .slice o1 ot.length co]) 122 rfl (Nat.le_of_ble_eq_true rfl) rfl rfl (by kernel_rfl) ?_
          refine (IsTable_at hq1 o1 co _ (hT2.below (HP.below hH12)).inn (tb_len hT2)).mono ?_
          rintro e w110 ⟨rfl, hb111⟩
          refine ⟨_, rfl, ?_⟩
          have hH112 : HP Tr w _ [.cel b7 #[vI s, vI y, vI l, vI m] 23] := HP.call hH12 hb111
          refine WL.z (v := .bool true) 123 ?_
          refine WL.y (v := .agg #[vI s, vI y, vI l, vI m]) 124 (x_loadS (cs := [vI s, vI y, vI l, vI m]) rfl rfl Try.underlying23 rfl sz23 (HP.range hH112 0 rfl rfl)) ?_
          refine WL.z (v := .slice o2 ou.length co2) 125 ?_
          rcases Bool.eq_false_or_eq_true (okT s y l m ou) with hq2 | hq2
          ·
            refine WL.call (f := 41) (args := #[.agg #[vI s, vI y, vI l, vI m], .slice o2 ou.length co2]) 126 rfl (Nat.le_of_ble_eq_true rfl) rfl rfl (by kernel_rfl) ?_
            refine (IsTable_at hq2 o2 co2 _ (hU2.below (HP.below hH112)).inn (tb_len hU2)).mono ?_
            rintro e w113 ⟨rfl, hb114⟩
            refine ⟨_, rfl, ?_⟩
            have hH115 : HP Tr w _ [.cel b7 #[vI s, vI y, vI l, vI m] 23] := HP.call hH112 hb114
            refine WL.z (v := .bool true) 127 ?_
            refine WL.nil (WQ.then (hK109 _ _ _ ?_))
            refine WC.sub (l' := [(0, .agg #[vI s, vI y, vI l, vI m]), (1, .slice p t.length cp), (2, .slice p2 u.length cp2), (3, .slice o1 ot.length co), (4, .slice o2 ou.length co2), (5, .slice p3 S.length cp3), (6, vI a), (7, vP b7 0), (14, .bool false), (15, .bool true), (16, vI 0), (17, .bool true), (18, vI 0), (57, .bool false), (63, .bool false), (70, .bool false), (127, .bool true)]) ⟨rfl, rfl, rfl, rfl, rfl, rfl, rfl, rfl, rfl, rfl, rfl, rfl, rfl, rfl, rfl, rfl, rfl, trivial⟩ ?_
            refine WC.yes rfl (WC.seq fun K116 hK116 => WC.region ?_)
            refine WL.y (v := .agg #[vI s, vI y, vI l, vI m]) 129 (x_loadS (cs := [vI s, vI y, vI l, vI m]) rfl rfl Try.underlying23 rfl sz23 (HP.range hH115 0 rfl rfl)) ?_
            refine WL.z (v := .slice p t.length cp) 130 ?_
            refine WL.z (v := .slice o1 ot.length co) 131 ?_
            have hJ3 := holds_join hc hv hq1 hq2
            obtain ⟨hp6, hp7, -⟩ := hol_parts hJ3.1
            have W5 := ok_VT hp6
            have W6 := ok_VT hp7
            refine WL.call (f := 35) (args := #[.agg #[vI s, vI y, vI l, vI m], .slice p t.length cp, .slice o1 ot.length co]) 132 rfl (Nat.le_of_ble_eq_true rfl) rfl rfl (by kernel_rfl) ?_
            refine (Jo_in (JoinMust_any p o1 t ot cp co s y l m _ (hT.below (HP.below hH115)).inn (hT2.below (HP.below hH115)).inn (tb_len hT) (tb_len hT2)) (by unfold joC; rw [hp1, hq1]; rfl)).mono ?_
            rintro e wq5 ⟨q5, c5, rfl, hQ5, hb⟩
            refine ⟨_, rfl, ?_⟩
            have hH117 : HP Tr w _ [.cel b7 #[vI s, vI y, vI l, vI m] 23] := HP.call hH115 hb
            have hbw1 := HP.below hH117
            have hbox1 : ∀ i9, i9 < 1 → World.rangeAt wq5 b7 i9 [vI s, vI y, vI l, vI m] := fun i9 h9 => match i9, h9 with | 0, _ => HP.range hH117 0 rfl rfl | n + 1, h9 => absurd h9 (by omega)
            replace hT := hT.below hbw1
            replace hU := hU.below hbw1
            replace hT2 := hT2.below hbw1
            replace hU2 := hU2.below hbw1
            replace hS := hS.below hbw1
            have hBk1 := HP.call (HP.refl (S := Tr) w) hbw1
            have hH118 : HP Tr wq5 wq5 [] := HP.refl wq5
            refine WL.z (v := .tuple #[.slice q5 ((rJ false t ot).length) c5, vI 0]) 128 ?_
            refine WL.z (v := .slice q5 ((rJ false t ot).length) c5) 133 ?_
            refine WL.z (v := vI 0) 134 ?_
            refine WL.z (v := .slice q5 ((rJ false t ot).length) c5) 28 ?_
            refine WL.z (v := vI 0) 29 ?_
            refine WL.nil (WQ.then (hK116 _ _ _ ?_))
            refine WC.sub (l' := [(0, .agg #[vI s, vI y, vI l, vI m]), (1, .slice p t.length cp), (2, .slice p2 u.length cp2), (3, .slice o1 ot.length co), (4, .slice o2 ou.length co2), (5, .slice p3 S.length cp3), (6, vI a), (7, vP b7 0), (14, .bool false), (15, .bool true), (16, vI 0), (17, .bool true), (18, vI 0), (28, .slice q5 ((rJ false t ot).length) c5), (29, vI 0), (57, .bool false), (63, .bool false), (70, .bool false), (127, .bool true)]) ⟨rfl, rfl, rfl, rfl, rfl, rfl, rfl, rfl, rfl, rfl, rfl, rfl, rfl, rfl, rfl, rfl, rfl, rfl, rfl, trivial⟩ ?_
            refine WC.seq fun K119 hK119 => WC.region ?_
            refine WL.y (v := .agg #[vI s, vI y, vI l, vI m]) 136 (x_loadS (cs := [vI s, vI y, vI l, vI m]) rfl rfl Try.underlying23 rfl sz23 (HP.oldRange hH118 trivial (hbox1 0 (by omega)))) ?_
            refine WL.z (v := .slice o2 ou.length co2) 137 ?_
            refine WL.z (v := .slice p2 u.length cp2) 138 ?_
            refine WL.call (f := 37) (args := #[.agg #[vI s, vI y, vI l, vI m], .slice o2 ou.length co2, .slice p2 u.length cp2]) 139 rfl (Nat.le_of_ble_eq_true rfl) rfl rfl (by kernel_rfl) ?_
            refine (Jo_in (JoinMay_any o2 p2 ou u co2 cp2 s y l m _ (hU2.below (HP.below hH118)).inn (hU.below (HP.below hH118)).inn (tb_len hU2) (tb_len hU)) (by unfold joC; rw [hq2, hp2]; rfl)).mono ?_
            rintro e wq6 ⟨q6, c6, rfl, hQ6, hb⟩
            refine ⟨_, rfl, ?_⟩
            have hH120 : HP Tr wq5 _ [] := HP.call hH118 hb
            have hbw2 := HP.below hH120
            have hbox2 : ∀ i9, i9 < 1 → World.rangeAt wq6 b7 i9 [vI s, vI y, vI l, vI m] := fun i9 h9 => HP.oldRange hH120 trivial (hbox1 i9 h9)
            replace hT := hT.below hbw2
            replace hU := hU.below hbw2
            replace hT2 := hT2.below hbw2
            replace hU2 := hU2.below hbw2
            replace hS := hS.below hbw2
            replace hQ5 := hQ5.below hbw2
            have hBk2 := HP.call hBk1 hbw2
            have hH121 : HP Tr wq6 wq6 [] := HP.refl wq6
            refine WL.z (v := .tuple #[.slice q6 ((rJ true ou u).length) c6, vI 0]) 135 ?_
            refine WL.z (v := .slice q6 ((rJ true ou u).length) c6) 140 ?_
            refine WL.z (v := vI 0) 141 ?_
            refine WL.z (v := .slice q6 ((rJ true ou u).length) c6) 30 ?_
            refine WL.z (v := vI 0) 31 ?_
            refine WL.nil (WQ.then (hK119 _ _ _ ?_))
            refine WC.sub (l' := [(0, .agg #[vI s, vI y, vI l, vI m]), (1, .slice p t.length cp), (2, .slice p2 u.length cp2), (3, .slice o1 ot.length co), (4, .slice o2 ou.length co2), (5, .slice p3 S.length cp3), (6, vI a), (7, vP b7 0), (14, .bool false), (15, .bool true), (16, vI 0), (17, .bool true), (18, vI 0), (28, .slice q5 ((rJ false t ot).length) c5), (29, vI 0), (30, .slice q6 ((rJ true ou u).length) c6), (31, vI 0), (57, .bool false), (63, .bool false), (70, .bool false), (127, .bool true)]) ⟨rfl, rfl, rfl, rfl, rfl, rfl, rfl, rfl, rfl, rfl, rfl, rfl, rfl, rfl, rfl, rfl, rfl, rfl, rfl, rfl, rfl, trivial⟩ ?_
            refine WC.seq fun K122 hK122 => WC.region ?_
            refine WL.y (v := .agg #[vI s, vI y, vI l, vI m]) 143 (x_loadS (cs := [vI s, vI y, vI l, vI m]) rfl rfl Try.underlying23 rfl sz23 (HP.oldRange hH121 trivial (hbox2 0 (by omega)))) ?_
            refine WL.z (v := .slice q5 ((rJ false t ot).length) c5) 144 ?_
            refine WL.z (v := .slice q6 ((rJ true ou u).length) c6) 145 ?_
            refine WL.z (v := .slice p3 S.length cp3) 146 ?_
            refine WL.call (f := 39) (args := #[.agg #[vI s, vI y, vI l, vI m], .slice q5 ((rJ false t ot).length) c5, .slice q6 ((rJ true ou u).length) c6, .slice p3 S.length cp3]) 147 rfl (Nat.le_of_ble_eq_true rfl) rfl rfl (by kernel_rfl) ?_
            refine (Hol_yes (hol3_any s y l m q5 (rJ false t ot) c5 q6 (rJ true ou u) c6 p3 S cp3 _ (hQ5.below (HP.below hH121)) (hQ6.below (HP.below hH121)) (hS.below (HP.below hH121)).inn (len_le W5.len) (len_le W6.len) rfl (smX_in hS)) hJ3.1 hJ3.2).mono ?_
            rintro e w123 ⟨rfl, hb124⟩
            refine ⟨_, rfl, ?_⟩
            have hH125 : HP Tr wq6 _ [] := HP.call hH121 hb124
            refine WL.z (v := .tuple #[.bool true, vI 0]) 142 ?_
            refine WL.z (v := .bool true) 148 ?_
            refine WL.z (v := vI 0) 149 ?_
            refine WL.z (v := .bool true) 32 ?_
            refine WL.z (v := vI 0) 33 ?_
            refine WL.nil (WQ.then (hK122 _ _ _ ?_))
            refine WC.sub (l' := [(0, .agg #[vI s, vI y, vI l, vI m]), (1, .slice p t.length cp), (2, .slice p2 u.length cp2), (3, .slice o1 ot.length co), (4, .slice o2 ou.length co2), (5, .slice p3 S.length cp3), (6, vI a), (7, vP b7 0), (14, .bool false), (15, .bool true), (16, vI 0), (17, .bool true), (18, vI 0), (28, .slice q5 ((rJ false t ot).length) c5), (29, vI 0), (30, .slice q6 ((rJ true ou u).length) c6), (31, vI 0), (32, .bool true), (33, vI 0), (57, .bool false), (63, .bool false), (70, .bool false), (127, .bool true)]) ⟨rfl, rfl, rfl, rfl, rfl, rfl, rfl, rfl, rfl, rfl, rfl, rfl, rfl, rfl, rfl, rfl, rfl, rfl, rfl, rfl, rfl, rfl, rfl, trivial⟩ ?_
            refine WC.seq fun K126 hK126 => WC.region ?_
            refine WL.z (v := vI 0) 150 ?_
            refine WL.y (v := .bool false) 151 (x_neq rfl rfl rfl (by decide)) ?_
            refine WL.z (v := .bool false) 152 ?_
            refine WL.z (v := vI 0) 153 ?_
            refine WL.y (v := .bool false) 154 (x_neq rfl rfl rfl (by decide)) ?_
            refine WL.z (v := .bool false) 155 ?_
            refine WL.z (v := .bool false) 156 ?_
            refine WL.z (v := vI 0) 157 ?_
            refine WL.y (v := .bool false) 158 (x_neq rfl rfl rfl (by decide)) ?_
            refine WL.z (v := .bool false) 159 ?_
            refine WL.z (v := .bool false) 160 ?_
            refine WL.z (v := .bool true) 161 ?_
            refine WL.z (v := .bool false) 162 ?_
            refine WL.z (v := .bool false) 163 ?_
            refine WL.nil (WQ.then (hK126 _ _ _ ?_))
            refine WC.sub (l' := [(0, .agg #[vI s, vI y, vI l, vI m]), (1, .slice p t.length cp), (2, .slice p2 u.length cp2), (3, .slice o1 ot.length co), (4, .slice o2 ou.length co2), (5, .slice p3 S.length cp3), (6, vI a), (7, vP b7 0), (14, .bool false), (15, .bool true), (16, vI 0), (17, .bool true), (18, vI 0), (28, .slice q5 ((rJ false t ot).length) c5), (29, vI 0), (30, .slice q6 ((rJ true ou u).length) c6), (31, vI 0), (32, .bool true), (33, vI 0), (57, .bool false), (63, .bool false), (70, .bool false), (127, .bool true), (163, .bool false)]) ⟨rfl, rfl, rfl, rfl, rfl, rfl, rfl, rfl, rfl, rfl, rfl, rfl, rfl, rfl, rfl, rfl, rfl, rfl, rfl, rfl, rfl, rfl, rfl, rfl, trivial⟩ ?_
            refine WC.no rfl (WC.skip (WQ.then (hK108 _ _ _ (WC.seq fun K127 hK127 => WC.region ?_))))
            refine WL.call (f := 16) (args := #[]) 164 rfl (Nat.le_of_ble_eq_true rfl) rfl rfl (by kernel_rfl) ?_
            refine (sane_any _).mono ?_
            rintro e w128 ⟨rfl, hb129⟩
            refine ⟨_, rfl, ?_⟩
            have hH130 : HP Tr wq6 _ [] := HP.call hH125 hb129
            refine WL.z (v := .bool true) 14 ?_
            refine WL.nil (WQ.then (hK127 _ _ _ (WC.ret ?_)))
            refine WQ.ret1 14 rfl rfl ?_
            exact ⟨rfl, HP.below (HP.call hBk2 (HP.below hH130))⟩
          ·
            refine WL.call (f := 41) (args := #[.agg #[vI s, vI y, vI l, vI m], .slice o2 ou.length co2]) 126 rfl (Nat.le_of_ble_eq_true rfl) rfl rfl (by kernel_rfl) ?_
            refine (IsTable_at hq2 o2 co2 _ (hU2.below (HP.below hH112)).inn (tb_len hU2)).mono ?_
            rintro e w131 ⟨rfl, hb132⟩
            refine ⟨_, rfl, ?_⟩
            have hH133 : HP Tr w _ [.cel b7 #[vI s, vI y, vI l, vI m] 23] := HP.call hH112 hb132
            refine WL.z (v := .bool false) 127 ?_
            refine WL.nil (WQ.then (hK109 _ _ _ ?_))
            refine WC.sub (l' := [(0, .agg #[vI s, vI y, vI l, vI m]), (1, .slice p t.length cp), (2, .slice p2 u.length cp2), (3, .slice o1 ot.length co), (4, .slice o2 ou.length co2), (5, .slice p3 S.length cp3), (6, vI a), (7, vP b7 0), (14, .bool false), (15, .bool true), (16, vI 0), (17, .bool true), (18, vI 0), (57, .bool false), (63, .bool false), (70, .bool false), (127, .bool false)]) ⟨rfl, rfl, rfl, rfl, rfl, rfl, rfl, rfl, rfl, rfl, rfl, rfl, rfl, rfl, rfl, rfl, rfl, trivial⟩ ?_
            refine WC.no rfl (WC.skip (WQ.then (hK108 _ _ _ (WC.seq fun K134 hK134 => WC.region ?_))))
            refine WL.call (f := 16) (args := #[]) 164 rfl (Nat.le_of_ble_eq_true rfl) rfl rfl (by kernel_rfl) ?_
            refine (sane_any _).mono ?_
            rintro e w135 ⟨rfl, hb136⟩
            refine ⟨_, rfl, ?_⟩
            have hH137 : HP Tr w _ [.cel b7 #[vI s, vI y, vI l, vI m] 23] := HP.call hH133 hb136
            refine WL.z (v := .bool true) 14 ?_
            refine WL.nil (WQ.then (hK134 _ _ _ (WC.ret ?_)))
            refine WQ.ret1 14 rfl rfl ?_
            exact ⟨rfl, HP.below (HP.call (HP.refl (S := Tr) w) (HP.below hH137))⟩
        ·
          refine WL.call (f := 41) (args := #[.agg #[vI s, vI y, vI l, vI m], .slice o1 ot.length co]) 122 rfl (Nat.le_of_ble_eq_true rfl) rfl rfl (by kernel_rfl) ?_
          refine (IsTable_at hq1 o1 co _ (hT2.below (HP.below hH12)).inn (tb_len hT2)).mono ?_
          rintro e w138 ⟨rfl, hb139⟩
          refine ⟨_, rfl, ?_⟩
          have hH140 : HP Tr w _ [.cel b7 #[vI s, vI y, vI l, vI m] 23] := HP.call hH12 hb139
          refine WL.z (v := .bool false) 123 ?_
          refine WL.p 124 ?_
          refine WL.p 125 ?_
          refine WL.p 126 ?_
          refine WL.z (v := .bool false) 127 ?_
          refine WL.nil (WQ.then (hK109 _ _ _ ?_))
          refine WC.sub (l' := [(0, .agg #[vI s, vI y, vI l, vI m]), (1, .slice p t.length cp), (2, .slice p2 u.length cp2), (3, .slice o1 ot.length co), (4, .slice o2 ou.length co2), (5, .slice p3 S.length cp3), (6, vI a), (7, vP b7 0), (14, .bool false), (15, .bool true), (16, vI 0), (17, .bool true), (18, vI 0), (57, .bool false), (63, .bool false), (70, .bool false), (127, .bool false)]) ⟨rfl, rfl, rfl, rfl, rfl, rfl, rfl, rfl, rfl, rfl, rfl, rfl, rfl, rfl, rfl, rfl, rfl, trivial⟩ ?_
          refine WC.no rfl (WC.skip (WQ.then (hK108 _ _ _ (WC.seq fun K141 hK141 => WC.region ?_))))
          refine WL.call (f := 16) (args := #[]) 164 rfl (Nat.le_of_ble_eq_true rfl) rfl rfl (by kernel_rfl) ?_
          refine (sane_any _).mono ?_
          rintro e w142 ⟨rfl, hb143⟩
          refine ⟨_, rfl, ?_⟩
          have hH144 : HP Tr w _ [.cel b7 #[vI s, vI y, vI l, vI m] 23] := HP.call hH140 hb143
          refine WL.z (v := .bool true) 14 ?_
          refine WL.nil (WQ.then (hK141 _ _ _ (WC.ret ?_)))
          refine WQ.ret1 14 rfl rfl ?_
          exact ⟨rfl, HP.below (HP.call (HP.refl (S := Tr) w) (HP.below hH144))⟩
    ·
      refine WL.call (f := 39) (args := #[.agg #[vI s, vI y, vI l, vI m], .slice p t.length cp, .slice p2 u.length cp2, .slice p3 S.length cp3]) 39 rfl (Nat.le_of_ble_eq_true rfl) rfl rfl (by kernel_rfl) ?_
      refine (Hol_yes (hol3_any s y l m p t cp p2 u cp2 p3 S cp3 _ (hT.below (HP.below hH4)).inn (hU.below (HP.below hH4)).inn (hS.below (HP.below hH4)).inn (tb_len hT) (tb_len hU) rfl (smX_in hS)) hc hv).mono ?_
      rintro e w145 ⟨rfl, hb146⟩
      refine ⟨_, rfl, ?_⟩
      have hH147 : HP Tr w _ [.cel b7 #[vI s, vI y, vI l, vI m] 23] := HP.call hH4 hb146
      refine WL.z (v := .tuple #[.bool false, vI 0]) 34 ?_
      refine WL.z (v := .bool false) 40 ?_
      refine WL.z (v := vI 0) 41 ?_
      refine WL.z (v := .bool false) 15 ?_
      refine WL.z (v := vI 0) 16 ?_
      refine WL.nil (WQ.then (hK5 _ _ _ ?_))
      refine WC.sub (l' := [(0, .agg #[vI s, vI y, vI l, vI m]), (1, .slice p t.length cp), (2, .slice p2 u.length cp2), (3, .slice o1 ot.length co), (4, .slice o2 ou.length co2), (5, .slice p3 S.length cp3), (6, vI a), (7, vP b7 0), (14, .bool false), (15, .bool false), (16, vI 0)]) ⟨rfl, rfl, rfl, rfl, rfl, rfl, rfl, rfl, rfl, rfl, rfl, trivial⟩ ?_
      refine WC.seq fun K148 hK148 => WC.region ?_
      refine WL.y (v := .agg #[vI s, vI y, vI l, vI m]) 43 (x_loadS (cs := [vI s, vI y, vI l, vI m]) rfl rfl Try.underlying23 rfl sz23 (HP.range hH147 0 rfl rfl)) ?_
      refine WL.z (v := .slice p t.length cp) 44 ?_
      refine WL.z (v := .slice p2 u.length cp2) 45 ?_
      refine WL.z (v := .slice p3 S.length cp3) 46 ?_
      refine WL.call (f := 40) (args := #[.agg #[vI s, vI y, vI l, vI m], .slice p t.length cp, .slice p2 u.length cp2, .slice p3 S.length cp3]) 47 rfl (Nat.le_of_ble_eq_true rfl) rfl rfl (by kernel_rfl) ?_
      refine (Hol_yes (rHolds_any s y l m p t cp p2 u cp2 p3 S cp3 _ (hT.below (HP.below hH147)).inn (hU.below (HP.below hH147)).inn (hS.below (HP.below hH147)).inn (tb_len hT) (tb_len hU) (by have := hS.len; omega)) hc hv).mono ?_
      rintro e w149 ⟨rfl, hb150⟩
      refine ⟨_, rfl, ?_⟩
      have hH151 : HP Tr w _ [.cel b7 #[vI s, vI y, vI l, vI m] 23] := HP.call hH147 hb150
      refine WL.z (v := .tuple #[.bool false, vI 0]) 42 ?_
      refine WL.z (v := .bool false) 48 ?_
      refine WL.z (v := vI 0) 49 ?_
      refine WL.z (v := .bool false) 17 ?_
      refine WL.z (v := vI 0) 18 ?_
      refine WL.nil (WQ.then (hK148 _ _ _ ?_))
      refine WC.sub (l' := [(0, .agg #[vI s, vI y, vI l, vI m]), (1, .slice p t.length cp), (2, .slice p2 u.length cp2), (3, .slice o1 ot.length co), (4, .slice o2 ou.length co2), (5, .slice p3 S.length cp3), (6, vI a), (7, vP b7 0), (14, .bool false), (15, .bool false), (16, vI 0), (17, .bool false), (18, vI 0)]) ⟨rfl, rfl, rfl, rfl, rfl, rfl, rfl, rfl, rfl, rfl, rfl, rfl, rfl, trivial⟩ ?_
      refine WC.seq fun K152 hK152 => WC.seq fun K153 hK153 => WC.region ?_
      refine WL.z (v := .bool false) 50 ?_
      refine WL.z (v := .bool false) 51 ?_
      refine WL.y (v := .bool false) 52 (x_neqb rfl rfl rfl Try.underlying4 (by simp)) ?_
      refine WL.z (v := .bool false) 53 ?_
      refine WL.z (v := vI 0) 54 ?_
      refine WL.z (v := vI 0) 55 ?_
      refine WL.y (v := .bool false) 56 (x_neq rfl rfl rfl (by decide)) ?_
      refine WL.z (v := .bool false) 57 ?_
      refine WL.nil (WQ.then (hK153 _ _ _ ?_))
      refine WC.sub (l' := [(0, .agg #[vI s, vI y, vI l, vI m]), (1, .slice p t.length cp), (2, .slice p2 u.length cp2), (3, .slice o1 ot.length co), (4, .slice o2 ou.length co2), (5, .slice p3 S.length cp3), (6, vI a), (7, vP b7 0), (14, .bool false), (15, .bool false), (16, vI 0), (17, .bool false), (18, vI 0), (57, .bool false)]) ⟨rfl, rfl, rfl, rfl, rfl, rfl, rfl, rfl, rfl, rfl, rfl, rfl, rfl, rfl, trivial⟩ ?_
      refine WC.no rfl (WC.skip (WQ.then (hK152 _ _ _ (WC.seq fun K154 hK154 => WC.seq fun K155 hK155 => WC.region ?_))))
      refine WL.z (v := vI 0) 58 ?_
      refine WL.y (v := .bool false) 59 (x_neq rfl rfl rfl (by decide)) ?_
      refine WL.z (v := .bool false) 60 ?_
      refine WL.z (v := .bool false) 61 ?_
      refine WL.z (v := .bool true) 62 ?_
      refine WL.z (v := .bool true) 63 ?_
      refine WL.nil (WQ.then (hK155 _ _ _ (WC.yes rfl (WC.seq fun K156 hK156 => WC.region ?_))))
      refine WL.call (f := 16) (args := #[]) 64 rfl (Nat.le_of_ble_eq_true rfl) rfl rfl (by kernel_rfl) ?_
      refine (sane_any _).mono ?_
      rintro e w157 ⟨rfl, hb158⟩
      refine ⟨_, rfl, ?_⟩
      have hH159 : HP Tr w _ [.cel b7 #[vI s, vI y, vI l, vI m] 23] := HP.call hH151 hb158
      refine WL.z (v := .bool true) 14 ?_
      refine WL.nil (WQ.then (hK156 _ _ _ ?_))
      refine WC.sub (l' := [(0, .agg #[vI s, vI y, vI l, vI m]), (1, .slice p t.length cp), (2, .slice p2 u.length cp2), (3, .slice o1 ot.length co), (4, .slice o2 ou.length co2), (5, .slice p3 S.length cp3), (6, vI a), (7, vP b7 0), (14, .bool true), (15, .bool false), (16, vI 0), (17, .bool false), (18, vI 0), (57, .bool false), (63, .bool true)]) ⟨rfl, rfl, rfl, rfl, rfl, rfl, rfl, rfl, rfl, rfl, rfl, rfl, rfl, rfl, rfl, trivial⟩ ?_
      refine WC.ret ?_
      refine WQ.thenRet ?_
      refine WQ.ret1 14 rfl rfl ?_
      exact ⟨rfl, HP.below (HP.call (HP.refl (S := Tr) w) (HP.below hH159))⟩
  ·
    refine WL.call (f := 39) (args := #[.agg #[vI s, vI y, vI l, vI m], .slice p t.length cp, .slice p2 u.length cp2, .slice p3 S.length cp3]) 39 rfl (Nat.le_of_ble_eq_true rfl) rfl rfl (by kernel_rfl) ?_
    refine (Hol_no (hol3_any s y l m p t cp p2 u cp2 p3 S cp3 _ (hT.below (HP.below hH4)).inn (hU.below (HP.below hH4)).inn (hS.below (HP.below hH4)).inn (tb_len hT) (tb_len hU) rfl (smX_in hS)) hc).mono ?_
    rintro e w160 ⟨rfl, hb161⟩
    refine ⟨_, rfl, ?_⟩
    have hH162 : HP Tr w _ [.cel b7 #[vI s, vI y, vI l, vI m] 23] := HP.call hH4 hb161
    refine WL.z (v := .tuple #[.bool false, vI 1]) 34 ?_
    refine WL.z (v := .bool false) 40 ?_
    refine WL.z (v := vI 1) 41 ?_
    refine WL.z (v := .bool false) 15 ?_
    refine WL.z (v := vI 1) 16 ?_
    refine WL.nil (WQ.then (hK5 _ _ _ ?_))
    refine WC.sub (l' := [(0, .agg #[vI s, vI y, vI l, vI m]), (1, .slice p t.length cp), (2, .slice p2 u.length cp2), (3, .slice o1 ot.length co), (4, .slice o2 ou.length co2), (5, .slice p3 S.length cp3), (6, vI a), (7, vP b7 0), (14, .bool false), (15, .bool false), (16, vI 1)]) ⟨rfl, rfl, rfl, rfl, rfl, rfl, rfl, rfl, rfl, rfl, rfl, trivial⟩ ?_
    refine WC.seq fun K163 hK163 => WC.region ?_
    refine WL.y (v := .agg #[vI s, vI y, vI l, vI m]) 43 (x_loadS (cs := [vI s, vI y, vI l, vI m]) rfl rfl Try.underlying23 rfl sz23 (HP.range hH162 0 rfl rfl)) ?_
    refine WL.z (v := .slice p t.length cp) 44 ?_
    refine WL.z (v := .slice p2 u.length cp2) 45 ?_
    refine WL.z (v := .slice p3 S.length cp3) 46 ?_
    refine WL.call (f := 40) (args := #[.agg #[vI s, vI y, vI l, vI m], .slice p t.length cp, .slice p2 u.length cp2, .slice p3 S.length cp3]) 47 rfl (Nat.le_of_ble_eq_true rfl) rfl rfl (by kernel_rfl) ?_
    refine (Hol_no (rHolds_any s y l m p t cp p2 u cp2 p3 S cp3 _ (hT.below (HP.below hH162)).inn (hU.below (HP.below hH162)).inn (hS.below (HP.below hH162)).inn (tb_len hT) (tb_len hU) (by have := hS.len; omega)) hc).mono ?_
    rintro e w164 ⟨rfl, hb165⟩
    refine ⟨_, rfl, ?_⟩
    have hH166 : HP Tr w _ [.cel b7 #[vI s, vI y, vI l, vI m] 23] := HP.call hH162 hb165
    refine WL.z (v := .tuple #[.bool false, vI 1]) 42 ?_
    refine WL.z (v := .bool false) 48 ?_
    refine WL.z (v := vI 1) 49 ?_
    refine WL.z (v := .bool false) 17 ?_
    refine WL.z (v := vI 1) 18 ?_
    refine WL.nil (WQ.then (hK163 _ _ _ ?_))
    refine WC.sub (l' := [(0, .agg #[vI s, vI y, vI l, vI m]), (1, .slice p t.length cp), (2, .slice p2 u.length cp2), (3, .slice o1 ot.length co), (4, .slice o2 ou.length co2), (5, .slice p3 S.length cp3), (6, vI a), (7, vP b7 0), (14, .bool false), (15, .bool false), (16, vI 1), (17, .bool false), (18, vI 1)]) ⟨rfl, rfl, rfl, rfl, rfl, rfl, rfl, rfl, rfl, rfl, rfl, rfl, rfl, trivial⟩ ?_
    refine WC.seq fun K167 hK167 => WC.seq fun K168 hK168 => WC.region ?_
    refine WL.z (v := .bool false) 50 ?_
    refine WL.z (v := .bool false) 51 ?_
    refine WL.y (v := .bool false) 52 (x_neqb rfl rfl rfl Try.underlying4 (by simp)) ?_
    refine WL.z (v := .bool false) 53 ?_
    refine WL.z (v := vI 1) 54 ?_
    refine WL.z (v := vI 1) 55 ?_
    refine WL.y (v := .bool false) 56 (x_neq rfl rfl rfl (by decide)) ?_
    refine WL.z (v := .bool false) 57 ?_
    refine WL.nil (WQ.then (hK168 _ _ _ ?_))
    refine WC.sub (l' := [(0, .agg #[vI s, vI y, vI l, vI m]), (1, .slice p t.length cp), (2, .slice p2 u.length cp2), (3, .slice o1 ot.length co), (4, .slice o2 ou.length co2), (5, .slice p3 S.length cp3), (6, vI a), (7, vP b7 0), (14, .bool false), (15, .bool false), (16, vI 1), (17, .bool false), (18, vI 1), (57, .bool false)]) ⟨rfl, rfl, rfl, rfl, rfl, rfl, rfl, rfl, rfl, rfl, rfl, rfl, rfl, rfl, trivial⟩ ?_
    refine WC.no rfl (WC.skip (WQ.then (hK167 _ _ _ (WC.seq fun K169 hK169 => WC.seq fun K170 hK170 => WC.region ?_))))
    refine WL.z (v := vI 1) 58 ?_
    refine WL.y (v := .bool true) 59 (x_neq rfl rfl rfl (by decide)) ?_
    refine WL.z (v := .bool true) 60 ?_
    refine WL.p 61 ?_
    refine WL.p 62 ?_
    refine WL.z (v := .bool true) 63 ?_
    refine WL.nil (WQ.then (hK170 _ _ _ (WC.yes rfl (WC.seq fun K171 hK171 => WC.region ?_))))
    refine WL.call (f := 16) (args := #[]) 64 rfl (Nat.le_of_ble_eq_true rfl) rfl rfl (by kernel_rfl) ?_
    refine (sane_any _).mono ?_
    rintro e w172 ⟨rfl, hb173⟩
    refine ⟨_, rfl, ?_⟩
    have hH174 : HP Tr w _ [.cel b7 #[vI s, vI y, vI l, vI m] 23] := HP.call hH166 hb173
    refine WL.z (v := .bool true) 14 ?_
    refine WL.nil (WQ.then (hK171 _ _ _ ?_))
    refine WC.sub (l' := [(0, .agg #[vI s, vI y, vI l, vI m]), (1, .slice p t.length cp), (2, .slice p2 u.length cp2), (3, .slice o1 ot.length co), (4, .slice o2 ou.length co2), (5, .slice p3 S.length cp3), (6, vI a), (7, vP b7 0), (14, .bool true), (15, .bool false), (16, vI 1), (17, .bool false), (18, vI 1), (57, .bool false), (63, .bool true)]) ⟨rfl, rfl, rfl, rfl, rfl, rfl, rfl, rfl, rfl, rfl, rfl, rfl, rfl, rfl, rfl, trivial⟩ ?_
    refine WC.ret ?_
    refine WQ.thenRet ?_
    refine WQ.ret1 14 rfl rfl ?_
    exact ⟨rfl, HP.below (HP.call (HP.refl (S := Tr) w) (HP.below hH174))⟩

theorem own : ownKnob Try.prog.godebug = none := by kernel_rfl
theorem laidOut : laidOutB Try.prog = true := by kernel_rfl
theorem cells23 : Try.prog.cellsOf 23 = 4 := by kernel_rfl

set_option maxRecDepth 100000 in
theorem lifted (os : Os) (started : os.Started) (H : Type) (enc : TypeId × Value → H) :
    ReturnsInHanded {} Try.checked os 10 .any (Rows.cacheHoldsSpec.pre6 enc Try.prog Try.f10 Rows.cacheHoldsRow.domain false) (Rows.cacheHoldsSpec.post enc Try.prog Try.f10 false true false false) := by
  refine returnsInHanded_of_change_sized (C := Try.checked) own started (by kernel_rfl) Try.func10
    (ChangeSpec.witness6 (enc := enc) (C := Try.checked) false ⟨#[], #[.agg #[.int .i64 0, .int .i64 0, .int .i64 0, .int .i64 0], .slice none 0 0, .slice none 0 0, .slice none 0 0, .slice none 0 0, .slice none 0 0, .int .i64 0], []⟩ 8 (by kernel_rfl) (by kernel_rfl) (by kernel_rfl) (by kernel_rfl)) ?_
  intro W base args ds gs before hval0 hW hcnd hsz0 _
  have hval : ∀ (j : Nat) t v, Try.f10.params[j]? = some t → args[j]? = some v → Value.okWide Try.prog W .any base t v := hval0
  have hW' := hW
  obtain ⟨p, q, hA0, hV, rfl, hfz, hnd⟩ := hW
  have hA : DataW.TrodAll enc Try.prog W 0 (fun _ => true) true Try.f10.params.toList args.toList ds p := hA0
  have hsz : (DataW.weightsEach Try.prog (Try.f10.params.toList ++ Rows.cacheHoldsSpec.plain.varTypes Try.prog) (ds ++ gs)).all (· ≤ reachBytes) = true := hsz0
  clear hsz0
  rw [Try.params10] at hA hval hsz
  obtain ⟨v0, vs0, d0, ds0, p0, q0, hargs, rfl, rfl, h0, r0⟩ := trodAll_cons hA
  obtain ⟨v1, vs1, d1, ds1, p1, q1, rfl, rfl, rfl, h1, r1⟩ := trodAll_cons r0
  obtain ⟨v2, vs2, d2, ds2, p2, q2, rfl, rfl, rfl, h2, r2⟩ := trodAll_cons r1
  obtain ⟨v3, vs3, d3, ds3, p3, q3, rfl, rfl, rfl, h3, r3⟩ := trodAll_cons r2
  obtain ⟨v4, vs4, d4, ds4, p4, q4, rfl, rfl, rfl, h4, r4⟩ := trodAll_cons r3
  obtain ⟨v5, vs5, d5, ds5, p5, q5, rfl, rfl, rfl, h5, r5⟩ := trodAll_cons r4
  obtain ⟨v6, vs6, d6, ds6, p6, q6, rfl, rfl, rfl, h6, r6⟩ := trodAll_cons r5
  obtain ⟨rfl, rfl, rfl⟩ := trodAll_nil r6
  obtain rfl : args = #[v0, v1, v2, v3, v4, v5, v6] := by cases args; simp_all
  obtain ⟨rfl, rfl⟩ := trodVars_none hV
  have k0 := h0
  have lt0 : ∀ x ∈ p0, x.block < W.heap.size := by obtain ⟨m, hm⟩ := k0; exact DataW.trod_lt m _ _ _ hm
  obtain ⟨c0_0, c0_1, c0_2, c0_3, y0_0, y0_1, y0_2, y0_3, m0, rfl, hd0, hp0, hy0_0, hy0_1, hy0_2, hy0_3⟩ := open_agg4 Try.underlying23 (by kernel_rfl) cells23 (hval 0 23 v0 rfl rfl) h0
  obtain ⟨a0_0, e0_0, -, w0_0⟩ := DataW.trod_int Try.underlying3 hy0_0
  simp at e0_0
  subst e0_0
  obtain ⟨a0_1, e0_1, -, w0_1⟩ := DataW.trod_int Try.underlying3 hy0_1
  simp at e0_1
  subst e0_1
  obtain ⟨a0_2, e0_2, -, w0_2⟩ := DataW.trod_int Try.underlying3 hy0_2
  simp at e0_2
  subst e0_2
  obtain ⟨a0_3, e0_3, -, w0_3⟩ := DataW.trod_int Try.underlying3 hy0_3
  simp at e0_3
  subst e0_3
  clear hd0 hp0
  have k1 := h1
  have lt1 : ∀ x ∈ p1, x.block < W.heap.size := by obtain ⟨m, hm⟩ := k1; exact DataW.trod_lt m _ _ _ hm
  obtain ⟨b1, n1, cap1, rfl⟩ := okWide_slice Try.underlying49 (hval 1 49 v1 rfl rfl)
  obtain ⟨S1, rfl, hS1⟩ := rowsT h1 (fun el sp he => sized_slice hsz (j := 1) (t := 49) rfl (by rw [he]; rfl) Try.underlying49)
  have k2 := h2
  have lt2 : ∀ x ∈ p2, x.block < W.heap.size := by obtain ⟨m, hm⟩ := k2; exact DataW.trod_lt m _ _ _ hm
  obtain ⟨b2, n2, cap2, rfl⟩ := okWide_slice Try.underlying49 (hval 2 49 v2 rfl rfl)
  obtain ⟨S2, rfl, hS2⟩ := rowsT h2 (fun el sp he => sized_slice hsz (j := 2) (t := 49) rfl (by rw [he]; rfl) Try.underlying49)
  have k3 := h3
  have lt3 : ∀ x ∈ p3, x.block < W.heap.size := by obtain ⟨m, hm⟩ := k3; exact DataW.trod_lt m _ _ _ hm
  obtain ⟨b3, n3, cap3, rfl⟩ := okWide_slice Try.underlying49 (hval 3 49 v3 rfl rfl)
  obtain ⟨S3, rfl, hS3⟩ := rowsT h3 (fun el sp he => sized_slice hsz (j := 3) (t := 49) rfl (by rw [he]; rfl) Try.underlying49)
  have k4 := h4
  have lt4 : ∀ x ∈ p4, x.block < W.heap.size := by obtain ⟨m, hm⟩ := k4; exact DataW.trod_lt m _ _ _ hm
  obtain ⟨b4, n4, cap4, rfl⟩ := okWide_slice Try.underlying49 (hval 4 49 v4 rfl rfl)
  obtain ⟨S4, rfl, hS4⟩ := rowsT h4 (fun el sp he => sized_slice hsz (j := 4) (t := 49) rfl (by rw [he]; rfl) Try.underlying49)
  have k5 := h5
  have lt5 : ∀ x ∈ p5, x.block < W.heap.size := by obtain ⟨m, hm⟩ := k5; exact DataW.trod_lt m _ _ _ hm
  obtain ⟨b5, n5, cap5, rfl⟩ := okWide_slice Try.underlying24 (hval 5 24 v5 rfl rfl)
  obtain ⟨S5, rfl, hS5⟩ := rowsS h5 (fun el sp he => ⟨sized_slice hsz (j := 5) (t := 24) rfl (by rw [he]; rfl) Try.underlying24, fun e1 sp1 hx => sized_inner hsz (j := 5) (t := 24) rfl (by rw [he]; rfl) Try.underlying24 Try.underlying33 hx⟩)
  obtain ⟨a6, rfl, rfl, rfl, w6⟩ := open_int Try.underlying3 (hval 6 3 v6 rfl rfl) h6
  clear hA0 hval0
  refine (walk a0_0 a0_1 a0_2 a0_3 b1 cap1 S1 b2 cap2 S2 b3 cap3 S3 b4 cap4 S4 b5 cap5 S5 a6 W w0_0 w0_1 w0_2 w0_3 hS1 hS2 hS3 hS4 hS5 w6).mono fun e W' ⟨he, bel⟩ => ?_
  subst he
  exact ⟨_, rfl, _, _, _, [], _, [], hW', trodAll_mk1 (shut_bool Try.underlying4 _), (trodAll_cons_mk (Below.trod laidOut (by kernel_rfl) (of_decide_eq_true (by kernel_rfl)) k0 bel lt0) (trodAll_cons_mk (Below.trod laidOut (by kernel_rfl) (of_decide_eq_true (by kernel_rfl)) k1 bel lt1) (trodAll_cons_mk (Below.trod laidOut (by kernel_rfl) (of_decide_eq_true (by kernel_rfl)) k2 bel lt2) (trodAll_cons_mk (Below.trod laidOut (by kernel_rfl) (of_decide_eq_true (by kernel_rfl)) k3 bel lt3) (trodAll_cons_mk (Below.trod laidOut (by kernel_rfl) (of_decide_eq_true (by kernel_rfl)) k4 bel lt4) (trodAll_cons_mk (Below.trod laidOut (by kernel_rfl) (of_decide_eq_true (by kernel_rfl)) k5 bel lt5) (trodAll_cons_mk (shut_int Try.underlying3 w6) trodAll_mk0))))))), rfl, bel.frame _, fun h => by cases h⟩

theorem over : Rows.cacheHoldsRow.holds Try.pinned (OpenSpec.ofChange Rows.cacheHoldsSpec) :=
  OpenClaim.holds_of_wide 10 Try.f10 rfl rfl rfl rfl rfl rfl rfl ⟨rfl, rfl, rfl, rfl, rfl⟩ rfl rfl rfl rfl rfl (by kernel_rfl) Try.func10 (by kernel_rfl)
    (of_decide_eq_true (by kernel_rfl)) (by unfold Func.isWrapper; first | (rw [if_pos (by decide +kernel)]; kernel_rfl) | (rw [if_neg (by decide +kernel)]; exact ⟨rfl, rfl⟩))
    (fun os started H enc _ => lifted os started H enc)

/-- the statement -/
theorem proved : Rows.CacheHoldsSaid := over
end Go.Proofs.Ytmjnakhpekbenaa.cacheHolds
