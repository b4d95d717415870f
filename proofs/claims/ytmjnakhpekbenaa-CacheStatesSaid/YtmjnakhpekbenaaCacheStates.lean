/-
  The statement CacheStates: for every geometry and lists the law returns true.
  Conditions: none beyond those of the given row.
-/
import Derived.Test.YtmjnakhpekbenaaCacheStatesE
import Derived.Test.YtmjnakhpekbenaaRows
import Derived.ProofKit
import Derived.OpenShut
import Derived.ShutString
import Derived.ChangeOld
import Derived.Lib.SmallJoins
set_option linter.unusedVariables false
set_option linter.unusedSimpArgs false
namespace Go.Proofs.Ytmjnakhpekbenaa.cacheStates
open Go.ChangeShapes Go.WideShapes Go.ChangeAt Go.RowKit Go.Joins
open Go.ChangeMaps (open_string shut_string)
open Fw Ca

set_option maxRecDepth 20000 in
set_option maxHeartbeats 4000000 in
theorem walk (s y l m : Int) (p : Option Addr) (cp : Nat) (S : List SlI) (w : World) (w0 : (Lit.int .i64 s).wf = true) (w1 : (Lit.int .i64 y).wf = true) (w2 : (Lit.int .i64 l).wf = true) (w3 : (Lit.int .i64 m).wf = true) (hS : StIn w p S) :
    Calls Try.prog 6 #[.agg #[vI s, vI y, vI l, vI m], .slice p S.length cp] w fun e w' => e = .returned (.bool true) ∧ Below w.heap.size w w' := by
  refine calls_of Try.func6 rfl (m := 55) rfl [(0, .agg #[vI s, vI y, vI l, vI m]), (1, .slice p S.length cp)] (Fr_enter [.agg #[vI s, vI y, vI l, vI m], .slice p S.length cp] 55 (Nat.le_of_ble_eq_true rfl)) ?_
  have hH1 : HP Tr w w [] := HP.refl w
  refine WC.seq fun K2 hK2 => ?_
  refine WC.region ?_
  refine WL.alloc (c := #[vI s, vI y, vI l, vI m]) (T := 23) hH1 2 rfl (by decide) rfl rfl (fun b2 => vP b2 0) (by kernel_rfl) (fun b2 w3 hw3 => ?_)
  have hH4 : HP Tr w w3 [.cel b2 #[vI s, vI y, vI l, vI m] 23] := hw3.2
  have nb2 := hw3.1
  clear hw3
  refine WL.pure (v := .bool false) 4 rfl (Nat.le_of_ble_eq_true rfl) rfl rfl (by kernel_rfl) ?_
  refine WL.nil ?_
  refine WQ.then ?_
  refine hK2 _ _ _ ?_
  refine WC.seq fun K5 hK5 => ?_
  refine WC.region ?_
  refine WL.pure (v := .agg #[vI s, vI y, vI l, vI m]) 10 rfl (Nat.le_of_ble_eq_true rfl) rfl rfl (x_loadS (cs := [vI s, vI y, vI l, vI m]) rfl rfl Try.underlying23 rfl sz23 (HP.range hH4 0 rfl rfl)) ?_
  refine WL.call (f := 21) (args := #[.agg #[vI s, vI y, vI l, vI m]]) 11 rfl (Nat.le_of_ble_eq_true rfl) rfl rfl (by kernel_rfl) ?_
  refine (Empty_any s y l m _).mono ?_
  rintro e w3 (⟨hg, rfl, hb⟩ | ⟨hg, g, rfl, hb⟩)
  ·
    refine ⟨_, rfl, ?_⟩
    have hH6 : HP Tr w _ [.cel b2 #[vI s, vI y, vI l, vI m] 23] := HP.call hH4 hb
    refine WL.pure (v := .tuple #[.slice none 0 0, vI 1]) 9 rfl (Nat.le_of_ble_eq_true rfl) rfl rfl (by kernel_rfl) ?_
    refine WL.pure (v := .slice none 0 0) 12 rfl (Nat.le_of_ble_eq_true rfl) rfl rfl (by kernel_rfl) ?_
    refine WL.pure (v := vI 1) 13 rfl (Nat.le_of_ble_eq_true rfl) rfl rfl (by kernel_rfl) ?_
    refine WL.pure (v := .slice none 0 0) 5 rfl (Nat.le_of_ble_eq_true rfl) rfl rfl (by kernel_rfl) ?_
    refine WL.pure (v := vI 1) 6 rfl (Nat.le_of_ble_eq_true rfl) rfl rfl (by kernel_rfl) ?_
    refine WL.nil ?_
    refine WQ.then ?_
    refine hK5 _ _ _ ?_
    refine WC.seq fun K7 hK7 => ?_
    refine WC.region ?_
    refine WL.pure (v := .agg #[vI s, vI y, vI l, vI m]) 15 rfl (Nat.le_of_ble_eq_true rfl) rfl rfl (x_loadS (cs := [vI s, vI y, vI l, vI m]) rfl rfl Try.underlying23 rfl sz23 (HP.range hH6 0 rfl rfl)) ?_
    refine WL.call (f := 20) (args := #[.agg #[vI s, vI y, vI l, vI m]]) 16 rfl (Nat.le_of_ble_eq_true rfl) rfl rfl (by kernel_rfl) ?_
    refine (rEmpty_any s y l m _).mono ?_
    rintro e w4 (⟨hg2, rfl, hb⟩ | ⟨hg2, g2, rfl, hb⟩)
    rotate_left
    · rw [hg] at hg2; cases hg2
    refine ⟨_, rfl, ?_⟩
    have hH8 : HP Tr w _ [.cel b2 #[vI s, vI y, vI l, vI m] 23] := HP.call hH6 hb
    refine WL.pure (v := .tuple #[.slice none 0 0, vI 1]) 14 rfl (Nat.le_of_ble_eq_true rfl) rfl rfl (by kernel_rfl) ?_
    refine WL.pure (v := .slice none 0 0) 17 rfl (Nat.le_of_ble_eq_true rfl) rfl rfl (by kernel_rfl) ?_
    refine WL.pure (v := vI 1) 18 rfl (Nat.le_of_ble_eq_true rfl) rfl rfl (by kernel_rfl) ?_
    refine WL.pure (v := .slice none 0 0) 7 rfl (Nat.le_of_ble_eq_true rfl) rfl rfl (by kernel_rfl) ?_
    refine WL.pure (v := vI 1) 8 rfl (Nat.le_of_ble_eq_true rfl) rfl rfl (by kernel_rfl) ?_
    refine WL.nil ?_
    refine WQ.then ?_
    refine hK7 _ _ _ ?_
    refine WC.sub (l' := [(0, .agg #[vI s, vI y, vI l, vI m]), (1, .slice p S.length cp), (2, vP b2 0), (4, .bool false), (5, .slice none 0 0), (6, vI 1), (7, .slice none 0 0), (8, vI 1)]) ⟨rfl, rfl, rfl, rfl, rfl, rfl, rfl, rfl, trivial⟩ ?_
    refine WC.seq fun K9 hK9 => ?_
    refine WC.confG (γ := Unit) [(0, .agg #[vI s, vI y, vI l, vI m]), (1, .slice p S.length cp), (2, vP b2 0), (5, .slice none 0 0), (6, vI 1), (7, .slice none 0 0), (8, vI 1)] (fun gy => [.agg #[vI s, vI y, vI l, vI m], .bool (vG s y l m), .agg #[vI s, vI y, vI l, vI m], .bool (vG s y l m), .bool true, .bool true, vI 1, vI 1, .bool true, .bool true, .bool true, .slice none 0 0, .slice none 0 0, .bool true, .bool true, .bool true, .agg #[vI s, vI y, vI l, vI m], .slice p S.length cp, .bool (okSt s y l m (stX S)), .agg #[vI s, vI y, vI l, vI m], .slice p S.length cp, .bool (okSt s y l m (stX S)), .bool true, .bool true, .bool true, vI 1, .bool true, .bool true, undef, undef, undef, .bool true, .bool true, .bool true, .bool true, .bool true, .bool true]) (fun gy D wz => HP Tr w wz [.cel b2 #[vI s, vI y, vI l, vI m] 23]) () (by kernel_rfl) ⟨rfl, rfl, rfl, rfl, rfl, rfl, rfl, trivial⟩ (by kernel_rfl) (by kernel_rfl) (by kernel_rfl) (fun _ => rfl) (by kernel_rfl) (HP.drew hH8) ?_ ?_
    · refine AllOk.cons ?o0 (AllOk.cons ?o1 (AllOk.cons ?o2 (AllOk.cons ?o3 (AllOk.cons ?o4 (AllOk.cons ?o5 (AllOk.cons ?o6 (AllOk.cons ?o7 (AllOk.cons ?o8 (AllOk.cons ?o9 (AllOk.cons ?o10 (AllOk.cons ?o11 (AllOk.cons ?o12 (AllOk.cons ?o13 (AllOk.cons ?o14 (AllOk.cons ?o15 (AllOk.cons ?o16 (AllOk.cons ?o17 (AllOk.cons ?o18 (AllOk.cons ?o19 (AllOk.cons ?o20 (AllOk.cons ?o21 (AllOk.cons ?o22 (AllOk.cons ?o23 (AllOk.cons ?o24 (AllOk.cons ?o25 (AllOk.cons ?o26 (AllOk.cons ?o27 (AllOk.cons ?o28 (AllOk.cons ?o29 (AllOk.cons ?o30 (AllOk.cons ?o31 (AllOk.cons ?o32 (AllOk.cons ?o33 (AllOk.cons ?o34 (AllOk.cons ?o35 (AllOk.cons ?o36 (AllOk.nil _)))))))))))))))))))))))))))))))))))))
      case o0 =>
        intro gy D wz hDi hdep hclo hW
        exact .inl ⟨rfl, rfl, .inl ⟨gy, wz, fun _ _ => rfl, x_loadS (cs := [vI s, vI y, vI l, vI m]) rfl rfl Try.underlying23 rfl sz23 (HP.range hW 0 rfl rfl), hW⟩⟩
      case o1 =>
        intro gy D wz hDi hdep hclo hW
        have hW2 := hW
        exact .inl ⟨rfl, rfl, .inr (.inr ⟨22, #[.agg #[vI s, vI y, vI l, vI m]], by kernel_rfl, (Valid_at rfl _).mono fun e w2 h => ⟨gy, fun _ _ => rfl, h.1, HP.call hW h.2⟩⟩)⟩
      case o2 =>
        intro gy D wz hDi hdep hclo hW
        exact .inl ⟨rfl, rfl, .inl ⟨gy, wz, fun _ _ => rfl, x_loadS (cs := [vI s, vI y, vI l, vI m]) rfl rfl Try.underlying23 rfl sz23 (HP.range hW 0 rfl rfl), hW⟩⟩
      case o3 =>
        intro gy D wz hDi hdep hclo hW
        have hW2 := hW
        exact .inl ⟨rfl, rfl, .inr (.inr ⟨23, #[.agg #[vI s, vI y, vI l, vI m]], by kernel_rfl, (rValid_any s y l m _).mono fun e w2 h => ⟨gy, fun _ _ => rfl, h.1, HP.call hW h.2⟩⟩)⟩
      case o4 =>
        intro gy D wz hDi hdep hclo hW
        exact .inl ⟨rfl, rfl, .inl ⟨gy, wz, fun _ _ => rfl, x_eqlb rfl rfl rfl Try.underlying4 (by simp), hW⟩⟩
      case o5 =>
        intro gy D wz hDi hdep hclo hW
        exact .inl ⟨rfl, rfl, .inl ⟨gy, wz, fun _ _ => rfl, by kernel_rfl, hW⟩⟩
      case o6 =>
        intro gy D wz hDi hdep hclo hW
        exact .inl ⟨rfl, rfl, .inl ⟨gy, wz, fun _ _ => rfl, by kernel_rfl, hW⟩⟩
      case o7 =>
        intro gy D wz hDi hdep hclo hW
        exact .inl ⟨rfl, rfl, .inl ⟨gy, wz, fun _ _ => rfl, by kernel_rfl, hW⟩⟩
      case o8 =>
        intro gy D wz hDi hdep hclo hW
        exact .inl ⟨rfl, rfl, .inl ⟨gy, wz, fun _ _ => rfl, x_eql rfl rfl rfl (by decide), hW⟩⟩
      case o9 =>
        intro gy D wz hDi hdep hclo hW
        exact .inl ⟨rfl, rfl, .inl ⟨gy, wz, fun _ _ => rfl, by kernel_rfl, hW⟩⟩
      case o10 =>
        intro gy D wz hDi hdep hclo hW
        exact .inl ⟨rfl, rfl, .inl ⟨gy, wz, fun _ _ => rfl, by kernel_rfl, hW⟩⟩
      case o11 =>
        intro gy D wz hDi hdep hclo hW
        exact .inl ⟨rfl, rfl, .inl ⟨gy, wz, fun _ _ => rfl, by kernel_rfl, hW⟩⟩
      case o12 =>
        intro gy D wz hDi hdep hclo hW
        exact .inl ⟨rfl, rfl, .inl ⟨gy, wz, fun _ _ => rfl, by kernel_rfl, hW⟩⟩
      case o13 =>
        intro gy D wz hDi hdep hclo hW
        have hW2 := hW
        exact .inl ⟨rfl, rfl, .inr (.inr ⟨14, #[.slice none 0 0, .slice none 0 0], by kernel_rfl, (same0_any _).mono fun e w2 h => ⟨gy, fun _ _ => rfl, h.1, HP.call hW h.2⟩⟩)⟩
      case o14 =>
        intro gy D wz hDi hdep hclo hW
        exact .inl ⟨rfl, rfl, .inl ⟨gy, wz, fun _ _ => rfl, by kernel_rfl, hW⟩⟩
      case o15 =>
        intro gy D wz hDi hdep hclo hW
        exact .inl ⟨rfl, rfl, .inl ⟨gy, wz, fun _ _ => rfl, by kernel_rfl, hW⟩⟩
      case o16 =>
        intro gy D wz hDi hdep hclo hW
        exact .inl ⟨rfl, rfl, .inl ⟨gy, wz, fun _ _ => rfl, x_loadS (cs := [vI s, vI y, vI l, vI m]) rfl rfl Try.underlying23 rfl sz23 (HP.range hW 0 rfl rfl), hW⟩⟩
      case o17 =>
        intro gy D wz hDi hdep hclo hW
        exact .inl ⟨rfl, rfl, .inl ⟨gy, wz, fun _ _ => rfl, by kernel_rfl, hW⟩⟩
      case o18 =>
        intro gy D wz hDi hdep hclo hW
        have hW2 := hW
        exact .inl ⟨rfl, rfl, .inr (.inr ⟨15, #[.agg #[vI s, vI y, vI l, vI m], .slice p S.length cp], by kernel_rfl, (VSt_at rfl p S cp _ (hS.inn.below (HP.below hW)) rfl (smX_in hS)).mono fun e w2 h => ⟨gy, fun _ _ => rfl, h.1, HP.call hW h.2⟩⟩)⟩
      case o19 =>
        intro gy D wz hDi hdep hclo hW
        exact .inl ⟨rfl, rfl, .inl ⟨gy, wz, fun _ _ => rfl, x_loadS (cs := [vI s, vI y, vI l, vI m]) rfl rfl Try.underlying23 rfl sz23 (HP.range hW 0 rfl rfl), hW⟩⟩
      case o20 =>
        intro gy D wz hDi hdep hclo hW
        exact .inl ⟨rfl, rfl, .inl ⟨gy, wz, fun _ _ => rfl, by kernel_rfl, hW⟩⟩
      case o21 =>
        intro gy D wz hDi hdep hclo hW
        have hW2 := hW
        exact .inl ⟨rfl, rfl, .inr (.inr ⟨19, #[.agg #[vI s, vI y, vI l, vI m], .slice p S.length cp], by kernel_rfl, (rVSt_at rfl p S cp _ (hS.inn.below (HP.below hW)) rfl (smX_in hS)).mono fun e w2 h => ⟨gy, fun _ _ => rfl, h.1, HP.call hW h.2⟩⟩)⟩
      case o22 =>
        intro gy D wz hDi hdep hclo hW
        exact .inl ⟨rfl, rfl, .inl ⟨gy, wz, fun _ _ => rfl, x_eqlb rfl rfl rfl Try.underlying4 (by simp), hW⟩⟩
      case o23 =>
        intro gy D wz hDi hdep hclo hW
        exact .inl ⟨rfl, rfl, .inl ⟨gy, wz, fun _ _ => rfl, by kernel_rfl, hW⟩⟩
      case o24 =>
        intro gy D wz hDi hdep hclo hW
        exact .inl ⟨rfl, rfl, .inl ⟨gy, wz, fun _ _ => rfl, by kernel_rfl, hW⟩⟩
      case o25 =>
        intro gy D wz hDi hdep hclo hW
        exact .inl ⟨rfl, rfl, .inl ⟨gy, wz, fun _ _ => rfl, by kernel_rfl, hW⟩⟩
      case o26 =>
        intro gy D wz hDi hdep hclo hW
        exact .inl ⟨rfl, rfl, .inl ⟨gy, wz, fun _ _ => rfl, x_neq rfl rfl rfl (by decide), hW⟩⟩
      case o27 =>
        intro gy D wz hDi hdep hclo hW
        exact .inl ⟨rfl, rfl, .inl ⟨gy, wz, fun _ _ => rfl, by kernel_rfl, hW⟩⟩
      case o28 =>
        intro gy D wz hDi hdep hclo hW
        exact .inr ⟨rfl, rfl, hW⟩
      case o29 =>
        intro gy D wz hDi hdep hclo hW
        exact .inr ⟨rfl, rfl, hW⟩
      case o30 =>
        intro gy D wz hDi hdep hclo hW
        exact .inr ⟨rfl, rfl, hW⟩
      case o31 =>
        intro gy D wz hDi hdep hclo hW
        exact .inl ⟨rfl, rfl, .inl ⟨gy, wz, fun _ _ => rfl, by kernel_rfl, hW⟩⟩
      case o32 =>
        intro gy D wz hDi hdep hclo hW
        exact .inl ⟨rfl, rfl, .inl ⟨gy, wz, fun _ _ => rfl, by kernel_rfl, hW⟩⟩
      case o33 =>
        intro gy D wz hDi hdep hclo hW
        exact .inl ⟨rfl, rfl, .inl ⟨gy, wz, fun _ _ => rfl, by kernel_rfl, hW⟩⟩
      case o34 =>
        intro gy D wz hDi hdep hclo hW
        have hW2 := hW
        exact .inl ⟨rfl, rfl, .inr (.inr ⟨16, #[], by kernel_rfl, (sane_any _).mono fun e w2 h => ⟨gy, fun _ _ => rfl, h.1, HP.call hW h.2⟩⟩)⟩
      case o35 =>
        intro gy D wz hDi hdep hclo hW
        exact .inl ⟨rfl, rfl, .inl ⟨gy, wz, fun _ _ => rfl, by kernel_rfl, hW⟩⟩
      case o36 =>
        intro gy D wz hDi hdep hclo hW
        exact .inl ⟨rfl, rfl, .inl ⟨gy, wz, fun _ _ => rfl, by kernel_rfl, hW⟩⟩
    rintro gy D w10 hall hH11
    clear hall
    refine WQ.sub (l' := [(0, .agg #[vI s, vI y, vI l, vI m]), (1, .slice p S.length cp), (2, vP b2 0), (4, .bool true), (5, .slice none 0 0), (6, vI 1), (7, .slice none 0 0), (8, vI 1)]) ⟨rfl, rfl, rfl, rfl, rfl, rfl, rfl, rfl, trivial⟩ ?_
    refine WQ.then ?_
    refine hK9 _ _ _ ?_
    refine WC.ret ?_
    refine WQ.ret1 4 rfl rfl ?_
    exact ⟨rfl, HP.below hH11⟩
  ·
    refine ⟨_, rfl, ?_⟩
    have hH12 : HP Tr w _ [.cel b2 #[vI s, vI y, vI l, vI m] 23, .cel g (nilR s.toNat) 33] := HP.trans hH4 hb
    refine WL.pure (v := .tuple #[vS g s.toNat s.toNat, vI 0]) 9 rfl (Nat.le_of_ble_eq_true rfl) rfl rfl (by kernel_rfl) ?_
    refine WL.pure (v := vS g s.toNat s.toNat) 12 rfl (Nat.le_of_ble_eq_true rfl) rfl rfl (by kernel_rfl) ?_
    refine WL.pure (v := vI 0) 13 rfl (Nat.le_of_ble_eq_true rfl) rfl rfl (by kernel_rfl) ?_
    refine WL.pure (v := vS g s.toNat s.toNat) 5 rfl (Nat.le_of_ble_eq_true rfl) rfl rfl (by kernel_rfl) ?_
    refine WL.pure (v := vI 0) 6 rfl (Nat.le_of_ble_eq_true rfl) rfl rfl (by kernel_rfl) ?_
    refine WL.nil ?_
    refine WQ.then ?_
    refine hK5 _ _ _ ?_
    refine WC.seq fun K13 hK13 => ?_
    refine WC.region ?_
    refine WL.pure (v := .agg #[vI s, vI y, vI l, vI m]) 15 rfl (Nat.le_of_ble_eq_true rfl) rfl rfl (x_loadS (cs := [vI s, vI y, vI l, vI m]) rfl rfl Try.underlying23 rfl sz23 (HP.range hH12 0 rfl rfl)) ?_
    refine WL.call (f := 20) (args := #[.agg #[vI s, vI y, vI l, vI m]]) 16 rfl (Nat.le_of_ble_eq_true rfl) rfl rfl (by kernel_rfl) ?_
    refine (rEmpty_any s y l m _).mono ?_
    rintro e w4 (⟨hg2, rfl, hb⟩ | ⟨hg2, g2, rfl, hb⟩)
    · rw [hg] at hg2; cases hg2
    refine ⟨_, rfl, ?_⟩
    have hH14 : HP Tr w _ [.cel b2 #[vI s, vI y, vI l, vI m] 23, .cel g (nilR s.toNat) 33, .cel g2 (nilR s.toNat) 33] := HP.trans hH12 hb
    have hs8 : s.toNat ≤ 8 := by have := (vG_iff.1 hg).1; omega
    refine WL.pure (v := .tuple #[vS g2 s.toNat s.toNat, vI 0]) 14 rfl (Nat.le_of_ble_eq_true rfl) rfl rfl (by kernel_rfl) ?_
    refine WL.pure (v := vS g2 s.toNat s.toNat) 17 rfl (Nat.le_of_ble_eq_true rfl) rfl rfl (by kernel_rfl) ?_
    refine WL.pure (v := vI 0) 18 rfl (Nat.le_of_ble_eq_true rfl) rfl rfl (by kernel_rfl) ?_
    refine WL.pure (v := vS g2 s.toNat s.toNat) 7 rfl (Nat.le_of_ble_eq_true rfl) rfl rfl (by kernel_rfl) ?_
    refine WL.pure (v := vI 0) 8 rfl (Nat.le_of_ble_eq_true rfl) rfl rfl (by kernel_rfl) ?_
    refine WL.nil ?_
    refine WQ.then ?_
    refine hK13 _ _ _ ?_
    refine WC.sub (l' := [(0, .agg #[vI s, vI y, vI l, vI m]), (1, .slice p S.length cp), (2, vP b2 0), (4, .bool false), (5, vS g s.toNat s.toNat), (6, vI 0), (7, vS g2 s.toNat s.toNat), (8, vI 0)]) ⟨rfl, rfl, rfl, rfl, rfl, rfl, rfl, rfl, trivial⟩ ?_
    refine WC.seq fun K15 hK15 => ?_
    refine WC.confG (γ := Unit) [(0, .agg #[vI s, vI y, vI l, vI m]), (1, .slice p S.length cp), (2, vP b2 0), (5, vS g s.toNat s.toNat), (6, vI 0), (7, vS g2 s.toNat s.toNat), (8, vI 0)] (fun gy => [.agg #[vI s, vI y, vI l, vI m], .bool (vG s y l m), .agg #[vI s, vI y, vI l, vI m], .bool (vG s y l m), .bool true, .bool true, vI 0, vI 0, .bool true, .bool true, .bool true, vS g s.toNat s.toNat, vS g2 s.toNat s.toNat, .bool true, .bool true, .bool true, .agg #[vI s, vI y, vI l, vI m], .slice p S.length cp, .bool (okSt s y l m (stX S)), .agg #[vI s, vI y, vI l, vI m], .slice p S.length cp, .bool (okSt s y l m (stX S)), .bool true, .bool true, .bool true, vI 0, .bool false, .bool false, .agg #[vI s, vI y, vI l, vI m], vS g s.toNat s.toNat, .bool true, .bool true, .bool true, .bool true, .bool true, .bool true, .bool true]) (fun gy D wz => HP Tr w wz [.cel b2 #[vI s, vI y, vI l, vI m] 23, .cel g (nilR s.toNat) 33, .cel g2 (nilR s.toNat) 33]) () (by kernel_rfl) ⟨rfl, rfl, rfl, rfl, rfl, rfl, rfl, trivial⟩ (by kernel_rfl) (by kernel_rfl) (by kernel_rfl) (fun _ => rfl) (by kernel_rfl) (HP.drew hH14) ?_ ?_
    · refine AllOk.cons ?o0 (AllOk.cons ?o1 (AllOk.cons ?o2 (AllOk.cons ?o3 (AllOk.cons ?o4 (AllOk.cons ?o5 (AllOk.cons ?o6 (AllOk.cons ?o7 (AllOk.cons ?o8 (AllOk.cons ?o9 (AllOk.cons ?o10 (AllOk.cons ?o11 (AllOk.cons ?o12 (AllOk.cons ?o13 (AllOk.cons ?o14 (AllOk.cons ?o15 (AllOk.cons ?o16 (AllOk.cons ?o17 (AllOk.cons ?o18 (AllOk.cons ?o19 (AllOk.cons ?o20 (AllOk.cons ?o21 (AllOk.cons ?o22 (AllOk.cons ?o23 (AllOk.cons ?o24 (AllOk.cons ?o25 (AllOk.cons ?o26 (AllOk.cons ?o27 (AllOk.cons ?o28 (AllOk.cons ?o29 (AllOk.cons ?o30 (AllOk.cons ?o31 (AllOk.cons ?o32 (AllOk.cons ?o33 (AllOk.cons ?o34 (AllOk.cons ?o35 (AllOk.cons ?o36 (AllOk.nil _)))))))))))))))))))))))))))))))))))))
      case o0 =>
        intro gy D wz hDi hdep hclo hW
        exact .inl ⟨rfl, rfl, .inl ⟨gy, wz, fun _ _ => rfl, x_loadS (cs := [vI s, vI y, vI l, vI m]) rfl rfl Try.underlying23 rfl sz23 (HP.range hW 0 rfl rfl), hW⟩⟩
      case o1 =>
        intro gy D wz hDi hdep hclo hW
        have hW2 := hW
        exact .inl ⟨rfl, rfl, .inr (.inr ⟨22, #[.agg #[vI s, vI y, vI l, vI m]], by kernel_rfl, (Valid_at rfl _).mono fun e w2 h => ⟨gy, fun _ _ => rfl, h.1, HP.call hW h.2⟩⟩)⟩
      case o2 =>
        intro gy D wz hDi hdep hclo hW
        exact .inl ⟨rfl, rfl, .inl ⟨gy, wz, fun _ _ => rfl, x_loadS (cs := [vI s, vI y, vI l, vI m]) rfl rfl Try.underlying23 rfl sz23 (HP.range hW 0 rfl rfl), hW⟩⟩
      case o3 =>
        intro gy D wz hDi hdep hclo hW
        have hW2 := hW
        exact .inl ⟨rfl, rfl, .inr (.inr ⟨23, #[.agg #[vI s, vI y, vI l, vI m]], by kernel_rfl, (rValid_any s y l m _).mono fun e w2 h => ⟨gy, fun _ _ => rfl, h.1, HP.call hW h.2⟩⟩)⟩
      case o4 =>
        intro gy D wz hDi hdep hclo hW
        exact .inl ⟨rfl, rfl, .inl ⟨gy, wz, fun _ _ => rfl, x_eqlb rfl rfl rfl Try.underlying4 (by simp), hW⟩⟩
      case o5 =>
        intro gy D wz hDi hdep hclo hW
        exact .inl ⟨rfl, rfl, .inl ⟨gy, wz, fun _ _ => rfl, by kernel_rfl, hW⟩⟩
      case o6 =>
        intro gy D wz hDi hdep hclo hW
        exact .inl ⟨rfl, rfl, .inl ⟨gy, wz, fun _ _ => rfl, by kernel_rfl, hW⟩⟩
      case o7 =>
        intro gy D wz hDi hdep hclo hW
        exact .inl ⟨rfl, rfl, .inl ⟨gy, wz, fun _ _ => rfl, by kernel_rfl, hW⟩⟩
      case o8 =>
        intro gy D wz hDi hdep hclo hW
        exact .inl ⟨rfl, rfl, .inl ⟨gy, wz, fun _ _ => rfl, x_eql rfl rfl rfl (by decide), hW⟩⟩
      case o9 =>
        intro gy D wz hDi hdep hclo hW
        exact .inl ⟨rfl, rfl, .inl ⟨gy, wz, fun _ _ => rfl, by kernel_rfl, hW⟩⟩
      case o10 =>
        intro gy D wz hDi hdep hclo hW
        exact .inl ⟨rfl, rfl, .inl ⟨gy, wz, fun _ _ => rfl, by kernel_rfl, hW⟩⟩
      case o11 =>
        intro gy D wz hDi hdep hclo hW
        exact .inl ⟨rfl, rfl, .inl ⟨gy, wz, fun _ _ => rfl, by kernel_rfl, hW⟩⟩
      case o12 =>
        intro gy D wz hDi hdep hclo hW
        exact .inl ⟨rfl, rfl, .inl ⟨gy, wz, fun _ _ => rfl, by kernel_rfl, hW⟩⟩
      case o13 =>
        intro gy D wz hDi hdep hclo hW
        have hW2 := hW
        exact .inl ⟨rfl, rfl, .inr (.inr ⟨14, #[vS g s.toNat s.toNat, vS g2 s.toNat s.toNat], by kernel_rfl, (same_nil g g2 s.toNat _ hs8 (nil_in hW 1 rfl) (nil_in hW 2 rfl)).mono fun e w2 h => ⟨gy, fun _ _ => rfl, h.1, HP.call hW h.2⟩⟩)⟩
      case o14 =>
        intro gy D wz hDi hdep hclo hW
        exact .inl ⟨rfl, rfl, .inl ⟨gy, wz, fun _ _ => rfl, by kernel_rfl, hW⟩⟩
      case o15 =>
        intro gy D wz hDi hdep hclo hW
        exact .inl ⟨rfl, rfl, .inl ⟨gy, wz, fun _ _ => rfl, by kernel_rfl, hW⟩⟩
      case o16 =>
        intro gy D wz hDi hdep hclo hW
        exact .inl ⟨rfl, rfl, .inl ⟨gy, wz, fun _ _ => rfl, x_loadS (cs := [vI s, vI y, vI l, vI m]) rfl rfl Try.underlying23 rfl sz23 (HP.range hW 0 rfl rfl), hW⟩⟩
      case o17 =>
        intro gy D wz hDi hdep hclo hW
        exact .inl ⟨rfl, rfl, .inl ⟨gy, wz, fun _ _ => rfl, by kernel_rfl, hW⟩⟩
      case o18 =>
        intro gy D wz hDi hdep hclo hW
        have hW2 := hW
        exact .inl ⟨rfl, rfl, .inr (.inr ⟨15, #[.agg #[vI s, vI y, vI l, vI m], .slice p S.length cp], by kernel_rfl, (VSt_at rfl p S cp _ (hS.inn.below (HP.below hW)) rfl (smX_in hS)).mono fun e w2 h => ⟨gy, fun _ _ => rfl, h.1, HP.call hW h.2⟩⟩)⟩
      case o19 =>
        intro gy D wz hDi hdep hclo hW
        exact .inl ⟨rfl, rfl, .inl ⟨gy, wz, fun _ _ => rfl, x_loadS (cs := [vI s, vI y, vI l, vI m]) rfl rfl Try.underlying23 rfl sz23 (HP.range hW 0 rfl rfl), hW⟩⟩
      case o20 =>
        intro gy D wz hDi hdep hclo hW
        exact .inl ⟨rfl, rfl, .inl ⟨gy, wz, fun _ _ => rfl, by kernel_rfl, hW⟩⟩
      case o21 =>
        intro gy D wz hDi hdep hclo hW
        have hW2 := hW
        exact .inl ⟨rfl, rfl, .inr (.inr ⟨19, #[.agg #[vI s, vI y, vI l, vI m], .slice p S.length cp], by kernel_rfl, (rVSt_at rfl p S cp _ (hS.inn.below (HP.below hW)) rfl (smX_in hS)).mono fun e w2 h => ⟨gy, fun _ _ => rfl, h.1, HP.call hW h.2⟩⟩)⟩
      case o22 =>
        intro gy D wz hDi hdep hclo hW
        exact .inl ⟨rfl, rfl, .inl ⟨gy, wz, fun _ _ => rfl, x_eqlb rfl rfl rfl Try.underlying4 (by simp), hW⟩⟩
      case o23 =>
        intro gy D wz hDi hdep hclo hW
        exact .inl ⟨rfl, rfl, .inl ⟨gy, wz, fun _ _ => rfl, by kernel_rfl, hW⟩⟩
      case o24 =>
        intro gy D wz hDi hdep hclo hW
        exact .inl ⟨rfl, rfl, .inl ⟨gy, wz, fun _ _ => rfl, by kernel_rfl, hW⟩⟩
      case o25 =>
        intro gy D wz hDi hdep hclo hW
        exact .inl ⟨rfl, rfl, .inl ⟨gy, wz, fun _ _ => rfl, by kernel_rfl, hW⟩⟩
      case o26 =>
        intro gy D wz hDi hdep hclo hW
        exact .inl ⟨rfl, rfl, .inl ⟨gy, wz, fun _ _ => rfl, x_neq rfl rfl rfl (by decide), hW⟩⟩
      case o27 =>
        intro gy D wz hDi hdep hclo hW
        exact .inl ⟨rfl, rfl, .inl ⟨gy, wz, fun _ _ => rfl, by kernel_rfl, hW⟩⟩
      case o28 =>
        intro gy D wz hDi hdep hclo hW
        exact .inl ⟨rfl, rfl, .inl ⟨gy, wz, fun _ _ => rfl, x_loadS (cs := [vI s, vI y, vI l, vI m]) rfl rfl Try.underlying23 rfl sz23 (HP.range hW 0 rfl rfl), hW⟩⟩
      case o29 =>
        intro gy D wz hDi hdep hclo hW
        exact .inl ⟨rfl, rfl, .inl ⟨gy, wz, fun _ _ => rfl, by kernel_rfl, hW⟩⟩
      case o30 =>
        intro gy D wz hDi hdep hclo hW
        have hW2 := hW
        exact .inl ⟨rfl, rfl, .inr (.inr ⟨15, #[.agg #[vI s, vI y, vI l, vI m], vS g s.toNat s.toNat], by kernel_rfl, (VSt_nil s y l m g _ hg (nil_in hW 1 rfl)).mono fun e w2 h => ⟨gy, fun _ _ => rfl, h.1, HP.call hW h.2⟩⟩)⟩
      case o31 =>
        intro gy D wz hDi hdep hclo hW
        exact .inl ⟨rfl, rfl, .inl ⟨gy, wz, fun _ _ => rfl, by kernel_rfl, hW⟩⟩
      case o32 =>
        intro gy D wz hDi hdep hclo hW
        exact .inl ⟨rfl, rfl, .inl ⟨gy, wz, fun _ _ => rfl, by kernel_rfl, hW⟩⟩
      case o33 =>
        intro gy D wz hDi hdep hclo hW
        exact .inl ⟨rfl, rfl, .inl ⟨gy, wz, fun _ _ => rfl, by kernel_rfl, hW⟩⟩
      case o34 =>
        intro gy D wz hDi hdep hclo hW
        have hW2 := hW
        exact .inl ⟨rfl, rfl, .inr (.inr ⟨16, #[], by kernel_rfl, (sane_any _).mono fun e w2 h => ⟨gy, fun _ _ => rfl, h.1, HP.call hW h.2⟩⟩)⟩
      case o35 =>
        intro gy D wz hDi hdep hclo hW
        exact .inl ⟨rfl, rfl, .inl ⟨gy, wz, fun _ _ => rfl, by kernel_rfl, hW⟩⟩
      case o36 =>
        intro gy D wz hDi hdep hclo hW
        exact .inl ⟨rfl, rfl, .inl ⟨gy, wz, fun _ _ => rfl, by kernel_rfl, hW⟩⟩
    rintro gy D w16 hall hH17
    clear hall
    refine WQ.sub (l' := [(0, .agg #[vI s, vI y, vI l, vI m]), (1, .slice p S.length cp), (2, vP b2 0), (4, .bool true), (5, vS g s.toNat s.toNat), (6, vI 0), (7, vS g2 s.toNat s.toNat), (8, vI 0)]) ⟨rfl, rfl, rfl, rfl, rfl, rfl, rfl, rfl, trivial⟩ ?_
    refine WQ.then ?_
    refine hK15 _ _ _ ?_
    refine WC.ret ?_
    refine WQ.ret1 4 rfl rfl ?_
    exact ⟨rfl, HP.below hH17⟩

theorem own : ownKnob Try.prog.godebug = none := by kernel_rfl
theorem laidOut : laidOutB Try.prog = true := by kernel_rfl
theorem cells23 : Try.prog.cellsOf 23 = 4 := by kernel_rfl

set_option maxRecDepth 100000 in
theorem lifted (os : Os) (started : os.Started) (H : Type) (enc : TypeId × Value → H) :
    ReturnsInHanded {} Try.checked os 6 .any (Rows.cacheStatesSpec.pre6 enc Try.prog Try.f6 Rows.cacheStatesRow.domain false) (Rows.cacheStatesSpec.post enc Try.prog Try.f6 false true false false) := by
  refine returnsInHanded_of_change_sized (C := Try.checked) own started (by kernel_rfl) Try.func6
    (ChangeSpec.witness6 (enc := enc) (C := Try.checked) false ⟨#[], #[.agg #[.int .i64 0, .int .i64 0, .int .i64 0, .int .i64 0], .slice none 0 0], []⟩ 8 (by kernel_rfl) (by kernel_rfl) (by kernel_rfl) (by kernel_rfl)) ?_
  intro W base args ds gs before hval0 hW hcnd hsz0 _
  have hval : ∀ (j : Nat) t v, Try.f6.params[j]? = some t → args[j]? = some v → Value.okWide Try.prog W .any base t v := hval0
  have hW' := hW
  obtain ⟨p, q, hA0, hV, rfl, hfz, hnd⟩ := hW
  have hA : DataW.TrodAll enc Try.prog W 0 (fun _ => true) true Try.f6.params.toList args.toList ds p := hA0
  have hsz : (DataW.weightsEach Try.prog (Try.f6.params.toList ++ Rows.cacheStatesSpec.plain.varTypes Try.prog) (ds ++ gs)).all (· ≤ reachBytes) = true := hsz0
  clear hsz0
  rw [Try.params6] at hA hval hsz
  obtain ⟨v0, vs0, d0, ds0, p0, q0, hargs, rfl, rfl, h0, r0⟩ := trodAll_cons hA
  obtain ⟨v1, vs1, d1, ds1, p1, q1, rfl, rfl, rfl, h1, r1⟩ := trodAll_cons r0
  obtain ⟨rfl, rfl, rfl⟩ := trodAll_nil r1
  obtain rfl : args = #[v0, v1] := by cases args; simp_all
  obtain ⟨rfl, rfl⟩ := trodVars_none hV
  have k0 := h0
  have lt0 : ∀ x ∈ p0, x.block < W.heap.size := by obtain ⟨m, hm⟩ := k0; exact DataW.trod_lt m _ _ _ hm
  obtain ⟨c0_0, c0_1, c0_2, c0_3, y0_0, y0_1, y0_2, y0_3, m0, rfl, hd0, hp0, hy0_0, hy0_1, hy0_2, hy0_3⟩ := open_agg4 Try.underlying23 (by kernel_rfl) cells23 (hval 0 23 v0 rfl rfl) h0
  obtain ⟨a0_0, e0_0, -, w0_0⟩ := DataW.trod_int Try.underlying3 hy0_0
  simp at e0_0
  subst e0_0
  obtain ⟨a0_1, e0_1, -, w0_1⟩ := DataW.trod_int Try.underlying3 hy0_1
  simp at e0_1
  subst e0_1
  obtain ⟨a0_2, e0_2, -, w0_2⟩ := DataW.trod_int Try.underlying3 hy0_2
  simp at e0_2
  subst e0_2
  obtain ⟨a0_3, e0_3, -, w0_3⟩ := DataW.trod_int Try.underlying3 hy0_3
  simp at e0_3
  subst e0_3
  clear hd0 hp0
  have k1 := h1
  have lt1 : ∀ x ∈ p1, x.block < W.heap.size := by obtain ⟨m, hm⟩ := k1; exact DataW.trod_lt m _ _ _ hm
  obtain ⟨b1, n1, cap1, rfl⟩ := okWide_slice Try.underlying24 (hval 1 24 v1 rfl rfl)
  obtain ⟨S1, rfl, hS1⟩ := rowsS h1 (fun el sp he => ⟨sized_slice hsz (j := 1) (t := 24) rfl (by rw [he]; rfl) Try.underlying24, fun e1 sp1 hx => sized_inner hsz (j := 1) (t := 24) rfl (by rw [he]; rfl) Try.underlying24 Try.underlying33 hx⟩)
  clear hA0 hval0
  refine (walk a0_0 a0_1 a0_2 a0_3 b1 cap1 S1 W w0_0 w0_1 w0_2 w0_3 hS1).mono fun e W' ⟨he, bel⟩ => ?_
  subst he
  exact ⟨_, rfl, _, _, _, [], _, [], hW', trodAll_mk1 (shut_bool Try.underlying4 _), (trodAll_cons_mk (Below.trod laidOut (by kernel_rfl) (of_decide_eq_true (by kernel_rfl)) k0 bel lt0) (trodAll_cons_mk (Below.trod laidOut (by kernel_rfl) (of_decide_eq_true (by kernel_rfl)) k1 bel lt1) trodAll_mk0)), rfl, bel.frame _, fun h => by cases h⟩

theorem over : Rows.cacheStatesRow.holds Try.pinned (OpenSpec.ofChange Rows.cacheStatesSpec) :=
  OpenClaim.holds_of_wide 6 Try.f6 rfl rfl rfl rfl rfl rfl rfl ⟨rfl, rfl, rfl, rfl, rfl⟩ rfl rfl rfl rfl rfl (by kernel_rfl) Try.func6 (by kernel_rfl)
    (of_decide_eq_true (by kernel_rfl)) (by unfold Func.isWrapper; first | (rw [if_pos (by decide +kernel)]; kernel_rfl) | (rw [if_neg (by decide +kernel)]; exact ⟨rfl, rfl⟩))
    (fun os started H enc _ => lifted os started H enc)

/-- the statement -/
theorem proved : Rows.CacheStatesSaid := over
end Go.Proofs.Ytmjnakhpekbenaa.cacheStates
