/-
  The statement CacheMisses: for every geometry, state and addresses the law returns true.
  Conditions: none beyond those of the given row.
-/
import Derived.Test.YtmjnakhpekbenaaCacheMissesD
import Derived.Test.YtmjnakhpekbenaaRows
import Derived.ProofKit
import Derived.OpenShut
import Derived.ShutString
import Derived.ChangeOld
import Derived.Lib.SmallJoins
set_option linter.unusedVariables false
set_option linter.unusedSimpArgs false
namespace Go.Proofs.Ytmjnakhpekbenaa.cacheMisses
open Go.ChangeShapes Go.WideShapes Go.ChangeAt Go.RowKit Go.Joins
open Go.ChangeMaps (open_string shut_string)
open Fw Ca

set_option maxRecDepth 20000 in
set_option maxHeartbeats 4000000 in
theorem walk (s y l m : Int) (p : Option Addr) (cp : Nat) (S : List SlI) (pl : Option Addr) (cl : Nat) (xl : List Int) (w : World) (w0 : (Lit.int .i64 s).wf = true) (w1 : (Lit.int .i64 y).wf = true) (w2 : (Lit.int .i64 l).wf = true) (w3 : (Lit.int .i64 m).wf = true) (hS : StIn w p S) (hL : SlIn w pl cl xl) :
    Calls Try.prog 5 #[.agg #[vI s, vI y, vI l, vI m], .slice p S.length cp, .slice pl xl.length cl] w fun e w' => e = .returned (.bool true) ∧ Below w.heap.size w w' := by
  refine calls_of Try.func5 rfl (m := 174) rfl [(0, .agg #[vI s, vI y, vI l, vI m]), (1, .slice p S.length cp), (2, .slice pl xl.length cl)] (Fr_enter [.agg #[vI s, vI y, vI l, vI m], .slice p S.length cp, .slice pl xl.length cl] 174 (Nat.le_of_ble_eq_true rfl)) ?_
  have hH1 : HP Tr w w [] := HP.refl w
  have hl1 := hL.len
  have hm0 := smX_in hS
  rcases Bool.eq_false_or_eq_true (okSt s y l m (stX S)) with hok | hok
  ·
    obtain ⟨hSs, hrl⟩ := okSt_rows hok
    have hg := (okSt_iff.1 hok).1
    subst hSs
    obtain ⟨⟨hs1, hs2⟩, ⟨hy1, hy2⟩, ⟨hlb1, hlb2⟩, -⟩ := vG_iff.1 hg
    refine WC.seq fun K2 hK2 => WC.region ?_
    refine WL.alloc (c := #[vI (S.length : Int), vI y, vI l, vI m]) (T := 23) hH1 3 rfl (by decide) rfl rfl (fun b3 => vP b3 0) (by kernel_rfl) (fun b3 w3 hw3 => ?_)
    have hH4 : HP Tr w w3 [.cel b3 #[vI (S.length : Int), vI y, vI l, vI m] 23] := hw3.2
    have nb3 := hw3.1
    clear hw3
    refine WL.z (v := .bool false) 6 ?_
    refine WL.nil (WQ.then (hK2 _ _ _ (WC.seq fun K5 hK5 => WC.seq fun K6 hK6 => WC.region ?_)))
    refine WL.y (v := .agg #[vI (S.length : Int), vI y, vI l, vI m]) 28 (x_loadS (cs := [vI (S.length : Int), vI y, vI l, vI m]) rfl rfl Try.underlying23 rfl sz23 (HP.range hH4 0 rfl rfl)) ?_
    refine WL.z (v := .slice p S.length cp) 29 ?_
    refine WL.call (f := 19) (args := #[.agg #[vI (S.length : Int), vI y, vI l, vI m], .slice p S.length cp]) 30 rfl (Nat.le_of_ble_eq_true rfl) rfl rfl (by kernel_rfl) ?_
    refine (rVSt_at hok p S cp _ (hS.below (HP.below hH4)).inn rfl hm0).mono ?_
    rintro e w7 ⟨rfl, hb8⟩
    refine ⟨_, rfl, ?_⟩
    have hH9 : HP Tr w _ [.cel b3 #[vI (S.length : Int), vI y, vI l, vI m] 23] := HP.call hH4 hb8
    refine WL.z (v := .bool false) 31 ?_
    refine WL.z (v := .bool false) 32 ?_
    refine WL.z (v := .slice pl xl.length cl) 33 ?_
    refine WL.z (v := vI (xl.length : Int)) 34 ?_
    by_cases h35 : (1000 : Int) < (xl.length : Int)
    ·
      refine WL.y (v := .bool true) 35 (x_gtr rfl rfl rfl (dT (h35))) ?_
      refine WL.z (v := .bool true) 36 ?_
      refine WL.nil (WQ.then (hK6 _ _ _ ?_))
      refine WC.sub (l' := [(0, .agg #[vI (S.length : Int), vI y, vI l, vI m]), (1, .slice p S.length cp), (2, .slice pl xl.length cl), (3, vP b3 0), (6, .bool false), (36, .bool true)]) ⟨rfl, rfl, rfl, rfl, rfl, rfl, trivial⟩ ?_
      refine WC.yes rfl (WC.seq fun K10 hK10 => WC.region ?_)
      refine WL.call (f := 16) (args := #[]) 37 rfl (Nat.le_of_ble_eq_true rfl) rfl rfl (by kernel_rfl) ?_
      refine (sane_any _).mono ?_
      rintro e w11 ⟨rfl, hb12⟩
      refine ⟨_, rfl, ?_⟩
      have hH13 : HP Tr w _ [.cel b3 #[vI (S.length : Int), vI y, vI l, vI m] 23] := HP.call hH9 hb12
      refine WL.z (v := .bool true) 6 ?_
      refine WL.nil (WQ.then (hK10 _ _ _ (WC.ret ?_)))
      refine WQ.thenRet ?_
      refine WQ.ret1 6 rfl rfl ?_
      exact ⟨rfl, HP.below (HP.call (HP.refl (S := Tr) w) (HP.below hH13))⟩
    ·
      refine WL.y (v := .bool false) 35 (x_gtr rfl rfl rfl (dF (h35))) ?_
      refine WL.z (v := .bool false) 36 ?_
      refine WL.nil (WQ.then (hK6 _ _ _ ?_))
      refine WC.sub (l' := [(0, .agg #[vI (S.length : Int), vI y, vI l, vI m]), (1, .slice p S.length cp), (2, .slice pl xl.length cl), (3, vP b3 0), (6, .bool false), (36, .bool false)]) ⟨rfl, rfl, rfl, rfl, rfl, rfl, trivial⟩ ?_
      refine WC.no rfl (WC.skip (WQ.then (hK5 _ _ _ (WC.seq fun K14 hK14 => ?_))))
      rcases Bool.eq_false_or_eq_true (runOk (S.length : Int) y l m (stX S) xl) with hr1 | hr1
      ·
        refine WC.confG (γ := Option Addr × Nat × List SlI × Option Addr × Nat × List SlI × Unit) [(0, .agg #[vI (S.length : Int), vI y, vI l, vI m]), (1, .slice p S.length cp), (2, .slice pl xl.length cl), (3, vP b3 0), (6, .bool false), (36, .bool false)] (fun gy => [.agg #[vI (S.length : Int), vI y, vI l, vI m], .slice p S.length cp, .slice gy.1 gy.2.2.1.length gy.2.1, .slice pl xl.length cl, .tuple #[.slice gy.2.2.2.1 gy.2.2.2.2.2.1.length gy.2.2.2.2.1, vI ((runX (S.length : Int) y l xl (stX S, 0)).2 : Int), vI 0], .tuple #[.slice gy.2.2.2.1 gy.2.2.2.2.2.1.length gy.2.2.2.2.1, vI ((runX (S.length : Int) y l xl (stX S, 0)).2 : Int), vI 0], .slice gy.2.2.2.1 gy.2.2.2.2.2.1.length gy.2.2.2.2.1, vI ((runX (S.length : Int) y l xl (stX S, 0)).2 : Int), vI 0, .slice gy.2.2.2.1 gy.2.2.2.2.2.1.length gy.2.2.2.2.1, vI ((runX (S.length : Int) y l xl (stX S, 0)).2 : Int), vI 0]) (fun gy D wz => HP Tr w wz [.cel b3 #[vI (S.length : Int), vI y, vI l, vI m] 23] ∧ (D 2 = true → (stX gy.2.2.1 = stX S ∧ InS2 wz gy.1 gy.2.2.1))) (none, 0, [], none, 0, [], ()) (by kernel_rfl) ⟨rfl, rfl, rfl, rfl, rfl, rfl, trivial⟩ (by kernel_rfl) (by kernel_rfl) (by kernel_rfl) (fun _ => rfl) (by kernel_rfl) (⟨HP.drew hH9, (fun h => by cases h)⟩) ?_ ?_
        · refine AllOk.cons ?o0 (AllOk.cons ?o1 (AllOk.cons ?o2 (AllOk.cons ?o3 (AllOk.cons ?o4 (AllOk.cons ?o5 (AllOk.cons ?o6 (AllOk.cons ?o7 (AllOk.cons ?o8 (AllOk.cons ?o9 (AllOk.cons ?o10 (AllOk.cons ?o11 (AllOk.nil _))))))))))))
          case o0 =>
            rintro gy D wz hDi hdep hclo ⟨hW, hX0⟩
            exact .inl ⟨rfl, rfl, .inl ⟨gy, wz, fun _ _ => rfl, x_loadS (cs := [vI (S.length : Int), vI y, vI l, vI m]) rfl rfl Try.underlying23 rfl sz23 (HP.range hW 0 rfl rfl), ⟨hW, hX0⟩⟩⟩
          case o1 =>
            rintro gy D wz hDi hdep hclo ⟨hW, hX0⟩
            exact .inl ⟨rfl, rfl, .inl ⟨gy, wz, fun _ _ => rfl, by kernel_rfl, ⟨hW, hX0⟩⟩⟩
          case o2 =>
            rintro gy D wz hDi hdep hclo ⟨hW, hX0⟩
            have hW2 := hW
            try simp only [hDi, cond_true, cond_false, List.append_nil, List.nil_append, List.cons_append] at hW2
            refine .inl ⟨rfl, rfl, .inr (.inr ⟨11, #[.slice p S.length cp], by kernel_rfl, (own3_any p S cp _ (hS.below (HP.below hW2))).mono ?_⟩)⟩
            rintro e w3 ⟨pt, ct, S1, rfl, hXo, hIo, hbo⟩
            have hA := HP.call hW2 hbo
            refine ⟨⟨pt, ct, S1, gy.2.2.2.1, gy.2.2.2.2.1, gy.2.2.2.2.2.1, ()⟩, fun j hj => ?_, rfl, ⟨?_, fun _ => ⟨hXo, hIo⟩⟩⟩
            · match j, hj with
              | 0, hj => rfl
              | 1, hj => rfl
              | 2, hj => rw [hDi] at hj; cases hj
              | 3, hj => rfl
              | 4, hj => rfl
              | 5, hj => rfl
              | 6, hj => rfl
              | 7, hj => rfl
              | 8, hj => rfl
              | 9, hj => rfl
              | 10, hj => rfl
              | 11, hj => rfl
              | j + 12, _ => rfl
            · show HP Tr w w3 [.cel b3 #[vI (S.length : Int), vI y, vI l, vI m] 23]
              try simp only [cond_true, cond_false, List.append_nil, List.nil_append, List.cons_append]
              exact hA
          case o3 =>
            rintro gy D wz hDi hdep hclo ⟨hW, hX0⟩
            exact .inl ⟨rfl, rfl, .inl ⟨gy, wz, fun _ _ => rfl, by kernel_rfl, ⟨hW, hX0⟩⟩⟩
          case o4 =>
            rintro gy D wz hDi hdep hclo ⟨hW, hX0⟩
            have d2 : D 2 = true := hdep ⟨2, .data⟩ (by simp) rfl
            have d5 : D 5 = false := by
              cases h : D 5 with
              | false => rfl
              | true => exact absurd (hclo 5 _ rfl h ⟨4, .data⟩ (by simp) rfl) (by rw [hDi]; exact Bool.false_ne_true)
            have d6 : D 6 = false := by
              cases h : D 6 with
              | false => rfl
              | true => exact absurd (hclo 6 _ rfl h ⟨5, .data⟩ (by simp) rfl) (by rw [d5]; exact Bool.false_ne_true)
            have d9 : D 9 = false := by
              cases h : D 9 with
              | false => rfl
              | true => exact absurd (hclo 9 _ rfl h ⟨4, .chain⟩ (by simp) rfl) (by rw [hDi]; exact Bool.false_ne_true)
            have hW2 := hW
            try simp only [hDi, cond_true, cond_false, List.append_nil, List.nil_append, List.cons_append] at hW2
            refine .inl ⟨rfl, rfl, .inr (.inr ⟨17, #[.agg #[vI (S.length : Int), vI y, vI l, vI m], .slice gy.1 gy.2.2.1.length gy.2.1, .slice pl xl.length cl], by kernel_rfl, (Run_yes3 (Run3_any (S.length : Int) y l m gy.1 gy.2.2.1 gy.2.1 pl xl cl _ (hX0 d2).2 (hX0 d2).1 hm0 (hL.inn.below (HP.below hW2)) (by omega)) hr1).mono ?_⟩)⟩
            rintro e w3 ⟨pa, ca, S2, rfl, hXr, hIr, hbr⟩
            have hA := HP.call hW2 hbr
            refine ⟨⟨gy.1, gy.2.1, gy.2.2.1, pa, ca, S2, ()⟩, fun j hj => ?_, rfl, ⟨?_, fun h9 => ⟨(hX0 h9).1, (hX0 h9).2.below hbr⟩⟩⟩
            · match j, hj with
              | 0, hj => rfl
              | 1, hj => rfl
              | 2, hj => rfl
              | 3, hj => rfl
              | 4, hj => rw [hDi] at hj; cases hj
              | 5, hj => exact absurd hj (by rw [d5]; exact Bool.false_ne_true)
              | 6, hj => exact absurd hj (by rw [d6]; exact Bool.false_ne_true)
              | 7, hj => rfl
              | 8, hj => rfl
              | 9, hj => exact absurd hj (by rw [d9]; exact Bool.false_ne_true)
              | 10, hj => rfl
              | 11, hj => rfl
              | j + 12, _ => rfl
            · show HP Tr w w3 [.cel b3 #[vI (S.length : Int), vI y, vI l, vI m] 23]
              try simp only [cond_true, cond_false, List.append_nil, List.nil_append, List.cons_append]
              exact hA
          case o5 =>
            rintro gy D wz hDi hdep hclo ⟨hW, hX0⟩
            exact .inl ⟨rfl, rfl, .inl ⟨gy, wz, fun _ _ => rfl, by kernel_rfl, ⟨hW, hX0⟩⟩⟩
          case o6 =>
            rintro gy D wz hDi hdep hclo ⟨hW, hX0⟩
            exact .inl ⟨rfl, rfl, .inl ⟨gy, wz, fun _ _ => rfl, by kernel_rfl, ⟨hW, hX0⟩⟩⟩
          case o7 =>
            rintro gy D wz hDi hdep hclo ⟨hW, hX0⟩
            exact .inl ⟨rfl, rfl, .inl ⟨gy, wz, fun _ _ => rfl, by kernel_rfl, ⟨hW, hX0⟩⟩⟩
          case o8 =>
            rintro gy D wz hDi hdep hclo ⟨hW, hX0⟩
            exact .inl ⟨rfl, rfl, .inl ⟨gy, wz, fun _ _ => rfl, by kernel_rfl, ⟨hW, hX0⟩⟩⟩
          case o9 =>
            rintro gy D wz hDi hdep hclo ⟨hW, hX0⟩
            exact .inl ⟨rfl, rfl, .inl ⟨gy, wz, fun _ _ => rfl, by kernel_rfl, ⟨hW, hX0⟩⟩⟩
          case o10 =>
            rintro gy D wz hDi hdep hclo ⟨hW, hX0⟩
            exact .inl ⟨rfl, rfl, .inl ⟨gy, wz, fun _ _ => rfl, by kernel_rfl, ⟨hW, hX0⟩⟩⟩
          case o11 =>
            rintro gy D wz hDi hdep hclo ⟨hW, hX0⟩
            exact .inl ⟨rfl, rfl, .inl ⟨gy, wz, fun _ _ => rfl, by kernel_rfl, ⟨hW, hX0⟩⟩⟩
        rintro ⟨pt, ct, S1, pa, ca, S2, gu⟩ D w15 hall ⟨hH16, hX0⟩
        have hO1 := hX0 (hall 2 (by kernel_rfl))
        clear hX0
        clear hall
        refine WQ.sub (l' := [(0, .agg #[vI (S.length : Int), vI y, vI l, vI m]), (1, .slice p S.length cp), (2, .slice pl xl.length cl), (3, vP b3 0), (6, .bool false), (8, vI ((runX (S.length : Int) y l xl (stX S, 0)).2 : Int)), (9, vI 0), (36, .bool false)]) ⟨rfl, rfl, rfl, rfl, rfl, rfl, rfl, rfl, trivial⟩ ?_
        have hbw1 := HP.below hH16
        have hbox1 : ∀ i9, i9 < 1 → World.rangeAt w15 b3 i9 [vI (S.length : Int), vI y, vI l, vI m] := fun i9 h9 => match i9, h9 with | 0, _ => HP.range hH16 0 rfl rfl | n + 1, h9 => absurd h9 (by omega)
        replace hS := hS.below hbw1
        replace hL := hL.below hbw1
        have hBk1 := HP.call (HP.refl (S := Tr) w) hbw1
        have hH17 : HP Tr w15 w15 [] := HP.refl w15
        obtain ⟨-, hlen, hal⟩ := runOk_iff.1 hr1
        have hle1 := run_len (s := (S.length : Int)) (y := y) (l := l) xl (stX S)
        refine WQ.then (hK14 _ _ _ (WC.seq fun K18 hK18 => WC.region ?_))
        refine WL.y (v := .agg #[vI (S.length : Int), vI y, vI l, vI m]) 48 (x_loadS (cs := [vI (S.length : Int), vI y, vI l, vI m]) rfl rfl Try.underlying23 rfl sz23 (HP.oldRange hH17 trivial (hbox1 0 (by omega)))) ?_
        refine WL.call (f := 20) (args := #[.agg #[vI (S.length : Int), vI y, vI l, vI m]]) 49 rfl (Nat.le_of_ble_eq_true rfl) rfl rfl (by kernel_rfl) ?_
        refine (rEmpty_yes (S.length : Int) y l m _ hg).mono ?_
        rintro e we ⟨g9, rfl, hb⟩
        refine ⟨_, rfl, ?_⟩
        have hH19 : HP Tr w15 _ [] := HP.call hH17 hb
        have hbw2 := HP.below hH19
        have hbox2 : ∀ i9, i9 < 1 → World.rangeAt we b3 i9 [vI (S.length : Int), vI y, vI l, vI m] := fun i9 h9 => HP.oldRange hH19 trivial (hbox1 i9 h9)
        replace hS := hS.below hbw2
        replace hL := hL.below hbw2
        have hBk2 := HP.call hBk1 hbw2
        have hH20 : HP Tr we we [] := HP.refl we
        refine WL.z (v := .tuple #[vS g9 ((S.length : Int).toNat) ((S.length : Int).toNat), vI 0]) 47 ?_
        refine WL.z (v := vS g9 ((S.length : Int).toNat) ((S.length : Int).toNat)) 50 ?_
        refine WL.z (v := vI 0) 51 ?_
        refine WL.z (v := vS g9 ((S.length : Int).toNat) ((S.length : Int).toNat)) 10 ?_
        refine WL.z (v := vI 0) 11 ?_
        refine WL.nil (WQ.then (hK18 _ _ _ ?_))
        refine WC.sub (l' := [(0, .agg #[vI (S.length : Int), vI y, vI l, vI m]), (1, .slice p S.length cp), (2, .slice pl xl.length cl), (3, vP b3 0), (6, .bool false), (8, vI ((runX (S.length : Int) y l xl (stX S, 0)).2 : Int)), (9, vI 0), (11, vI 0), (36, .bool false)]) ⟨rfl, rfl, rfl, rfl, rfl, rfl, rfl, rfl, rfl, trivial⟩ ?_
        refine WC.seq fun K21 hK21 => WC.seq fun K22 hK22 => WC.region ?_
        refine WL.z (v := vI 0) 52 ?_
        refine WL.y (v := .bool false) 53 (x_neq rfl rfl rfl (by decide)) ?_
        refine WL.z (v := .bool false) 54 ?_
        refine WL.z (v := vI 0) 55 ?_
        refine WL.y (v := .bool false) 56 (x_neq rfl rfl rfl (by decide)) ?_
        refine WL.z (v := .bool false) 57 ?_
        refine WL.nil (WQ.then (hK22 _ _ _ (WC.no rfl (WC.skip (WQ.then (hK21 _ _ _ (WC.seq fun K23 hK23 => ?_)))))))
        refine WC.region ?_
        refine WL.alloc (c := brow 1000 (fun _ => false)) (T := 4) hH20 76 rfl (by decide) rfl rfl (fun b76 => vS b76 1000 1000) (x_makeR rfl rfl rfl (show (Instr.makeSlice 39 (.int .i64 1000) (.int .i64 1000)).run Try.prog _ = _ from makeB 1000 (by omega) _)) (fun b76 w76 hw76 => ?_)
        have hH24 : HP Tr we w76 [.cel b76 (brow 1000 (fun _ => false)) 4] := hw76.2
        clear hw76
        refine WL.z (v := vS b76 1000 1000) 15 ?_
        refine WL.nil (WQ.then (hK23 _ _ _ ?_))
        refine WC.sub (l' := [(0, .agg #[vI (S.length : Int), vI y, vI l, vI m]), (1, .slice p S.length cp), (2, .slice pl xl.length cl), (3, vP b3 0), (6, .bool false), (8, vI ((runX (S.length : Int) y l xl (stX S, 0)).2 : Int)), (9, vI 0), (11, vI 0), (15, vS b76 1000 1000), (36, .bool false), (57, .bool false)]) ⟨rfl, rfl, rfl, rfl, rfl, rfl, rfl, rfl, rfl, rfl, rfl, trivial⟩ ?_
        refine WC.seq fun K25 hK25 => WC.seq fun K26 hK26 => WC.region ?_
        refine WL.z (v := vI 0) 16 ?_
        refine WL.nil (WQ.then (hK26 _ _ _ (WC.block ?_)))
        refine WC.loop (fun kk0 ll0 ww0 => ∃ (i : Nat), ll0 = [(1, .slice p S.length cp), (2, .slice pl xl.length cl), (3, vP b3 0), (8, vI ((runX (S.length : Int) y l xl (stX S, 0)).2 : Int)), (15, vS b76 1000 1000), (16, vI (i : Int))] ∧ kk0 = xl.length - i ∧ (i ≤ xl.length) ∧ HP Tr we ww0 [.cel b76 (brow 1000 (Bl l (xl.take i))) 4]) (xl.length) [(1, .slice p S.length cp), (2, .slice pl xl.length cl), (3, vP b3 0), (8, vI ((runX (S.length : Int) y l xl (stX S, 0)).2 : Int)), (15, vS b76 1000 1000), (16, vI 0)] ⟨rfl, rfl, rfl, rfl, rfl, rfl, trivial⟩ ⟨0, rfl, rfl, Nat.zero_le _, (HP.eq hH24 rfl)⟩ ?_
        rintro kk l w28 ⟨i, rfl, hkk, hi, hH29⟩ K27 hK27
        refine WC.seq fun K30 hK30 => WC.seq fun K31 hK31 => WC.region ?_
        refine WL.z (v := vI (i : Int)) 77 ?_
        refine WL.z (v := .slice pl xl.length cl) 78 ?_
        refine WL.z (v := vI (xl.length : Int)) 79 ?_
        by_cases hlt : (i : Int) < (xl.length : Int)
        ·
          refine WL.y (v := .bool true) 80 (x_lss rfl rfl rfl (dT (hlt))) ?_
          refine WL.nil (WQ.then (hK31 _ _ _ (WC.yes rfl (WC.skip (WQ.then (hK30 _ _ _ (WC.seq fun K32 hK32 => ?_)))))))
          refine WC.block ?_
          have hav := wn_iff.1 (List.all_eq_true.1 hal (xl.getD i 0) (by rw [List.getD_eq_getElem?_getD, List.getElem?_eq_getElem (show i < xl.length by omega)]; exact List.getElem_mem _))
          obtain ⟨kz, hkz⟩ : ∃ kz : Nat, xl.getD i 0 / l = (kz : Int) := ⟨(xl.getD i 0 / l).toNat, by have := line_bd ⟨hlb1, hlb2⟩ hav; omega⟩
          have hkb := line_bd ⟨hlb1, hlb2⟩ hav
          obtain ⟨gL, oL, hpL, hrowL⟩ := hL.inn (by omega)
          subst hpL
          refine WC.confG (γ := Unit) [(80, .bool true), (79, vI (xl.length : Int)), (78, .slice (some ⟨gL, oL, none⟩) xl.length cl), (77, vI (i : Int)), (1, .slice p S.length cp), (2, .slice (some ⟨gL, oL, none⟩) xl.length cl), (3, vP b3 0), (8, vI ((runX (S.length : Int) y l xl (stX S, 0)).2 : Int)), (15, vS b76 1000 1000), (16, vI (i : Int))] (fun gy => [vS b76 1000 1000, .slice (some ⟨gL, oL, none⟩) xl.length cl, vI (i : Int), vP gL (oL + i), vI (xl.getD i 0), vP b3 2, vI l, vI (kz : Int), vP b76 kz, undef]) (fun gy D wz => HP Tr we wz [(bif D 9 then Ent.cel b76 (brow 1000 (upB (Bl l (xl.take i)) kz true)) 4 else Ent.cel b76 (brow 1000 (Bl l (xl.take i))) 4)]) () (by kernel_rfl) ⟨rfl, rfl, rfl, rfl, rfl, rfl, rfl, rfl, rfl, rfl, trivial⟩ (by kernel_rfl) (by kernel_rfl) (by kernel_rfl) (fun _ => rfl) (by kernel_rfl) (HP.drew hH29) ?_ ?_
          · refine AllOk.cons ?o0 (AllOk.cons ?o1 (AllOk.cons ?o2 (AllOk.cons ?o3 (AllOk.cons ?o4 (AllOk.cons ?o5 (AllOk.cons ?o6 (AllOk.cons ?o7 (AllOk.cons ?o8 (AllOk.cons ?o9 (AllOk.nil _))))))))))
            case o0 =>
              intro gy D wz hDi hdep hclo hW
              exact .inl ⟨rfl, rfl, .inl ⟨gy, wz, fun _ _ => rfl, by kernel_rfl, hW⟩⟩
            case o1 =>
              intro gy D wz hDi hdep hclo hW
              exact .inl ⟨rfl, rfl, .inl ⟨gy, wz, fun _ _ => rfl, by kernel_rfl, hW⟩⟩
            case o2 =>
              intro gy D wz hDi hdep hclo hW
              exact .inl ⟨rfl, rfl, .inl ⟨gy, wz, fun _ _ => rfl, by kernel_rfl, hW⟩⟩
            case o3 =>
              intro gy D wz hDi hdep hclo hW
              exact .inl ⟨rfl, rfl, .inl ⟨gy, wz, fun _ _ => rfl, x_idx (i) (oL + i) rfl rfl rfl Try.underlying33 sz3 (by omega) (by omega) (by omega), hW⟩⟩
            case o4 =>
              intro gy D wz hDi hdep hclo hW
              exact .inl ⟨rfl, rfl, .inl ⟨gy, wz, fun _ _ => rfl, x_load rfl rfl Try.underlying3 rfl ((HP.oldRange hW trivial (hrowL i (by omega))) 0 _ rfl), hW⟩⟩
            case o5 =>
              intro gy D wz hDi hdep hclo hW
              exact .inl ⟨rfl, rfl, .inl ⟨gy, wz, fun _ _ => rfl, by kernel_rfl, hW⟩⟩
            case o6 =>
              intro gy D wz hDi hdep hclo hW
              exact .inl ⟨rfl, rfl, .inl ⟨gy, wz, fun _ _ => rfl, x_load rfl rfl Try.underlying3 rfl ((HP.oldRange hW trivial (hbox2 0 (by omega))) 2 _ rfl), hW⟩⟩
            case o7 =>
              intro gy D wz hDi hdep hclo hW
              exact .inl ⟨rfl, rfl, .inl ⟨gy, wz, fun _ _ => rfl, x_quo rfl rfl rfl (by omega) (by rw [Int.tdiv_eq_ediv_of_nonneg (by omega)]; exact hkz) (by omega) (by omega), hW⟩⟩
            case o8 =>
              intro gy D wz hDi hdep hclo hW
              exact .inl ⟨rfl, rfl, .inl ⟨gy, wz, fun _ _ => rfl, x_idx (kz) (kz) rfl rfl rfl Try.underlying39 sz4 (by omega) (by omega) (by omega), hW⟩⟩
            case o9 =>
              intro gy D wz hDi hdep hclo hW
              have hW9 := hW
              simp only [hDi, cond_false] at hW9
              have h4 := HP.set (off := kz) (v := .bool true) hW9 0 rfl
              rw [brow_set] at h4
              exact .inl ⟨rfl, rfl, .inr (.inl ⟨_, x_store rfl rfl rfl sz4 rfl (HP.cell hW9 0 rfl (brow_get (by omega) rfl)) (HP.free hW9 0 rfl), rfl, h4⟩)⟩
          rintro gy D w33 hall hH34
          simp only [hall 9 (by kernel_rfl), cond_true, List.append_nil, List.nil_append, List.cons_append] at hH34
          clear hall
          refine WQ.sub (l' := [(1, .slice p S.length cp), (2, .slice (some ⟨gL, oL, none⟩) xl.length cl), (3, vP b3 0), (8, vI ((runX (S.length : Int) y l xl (stX S, 0)).2 : Int)), (15, vS b76 1000 1000), (16, vI (i : Int)), (80, .bool true)]) ⟨rfl, rfl, rfl, rfl, rfl, rfl, rfl, trivial⟩ ?_
          refine WQ.inNormal (WQ.then (hK32 _ _ _ (WC.region ?_)))
          refine WL.z (v := vI (i : Int)) 81 ?_
          refine WL.y (v := vI ((i + 1 : Nat) : Int)) 82 (x_add (Z := ((i + 1 : Nat) : Int)) rfl rfl rfl (by omega) (by omega) (by omega)) ?_
          refine WL.z (v := vI ((i + 1 : Nat) : Int)) 16 ?_
          refine WL.nil ?_
          refine WQ.sub (l' := [(1, .slice p S.length cp), (2, .slice (some ⟨gL, oL, none⟩) xl.length cl), (3, vP b3 0), (8, vI ((runX (S.length : Int) y l xl (stX S, 0)).2 : Int)), (15, vS b76 1000 1000), (16, vI ((i + 1 : Nat) : Int))]) ⟨rfl, rfl, rfl, rfl, rfl, rfl, trivial⟩ ?_
          refine WQ.then (hK27 _ _ _ (by omega) ⟨i + 1, rfl, rfl, by omega, (HP.eq hH34 (by rw [Bl_step (show i < xl.length by omega) hkz]))⟩)
        ·
          refine WL.y (v := .bool false) 80 (x_lss rfl rfl rfl (dF (hlt))) ?_
          refine WL.nil (WQ.then (hK31 _ _ _ (WC.no rfl (WC.exit (WQ.thenExit (WQ.thenExit (WQ.inExit ?_)))))))
          refine WQ.then (hK25 _ _ _ (WC.seq fun K35 hK35 => WC.region ?_))
          refine WL.z (v := vI 0) 17 ?_
          refine WL.nil (WQ.then (hK35 _ _ _ (WC.seq fun K36 hK36 => WC.region ?_)))
          refine WL.z (v := vI 0) 18 ?_
          refine WL.nil (WQ.then (hK36 _ _ _ (WC.seq fun K37 hK37 => WC.region ?_)))
          refine WL.z (v := vI 0) 19 ?_
          refine WL.nil (WQ.then (hK37 _ _ _ (WC.seq fun K38 hK38 => WC.seq fun K39 hK39 => WC.region ?_)))
          refine WL.z (v := vI 0) 20 ?_
          refine WL.nil (WQ.then (hK39 _ _ _ (WC.block ?_)))
          refine WC.loop (fun kk0 ll0 ww0 => ∃ (k : Nat) (nf : Nat) (na : Nat) (nm : Nat), ll0 = [(1, .slice p S.length cp), (2, .slice pl xl.length cl), (3, vP b3 0), (8, vI ((runX (S.length : Int) y l xl (stX S, 0)).2 : Int)), (15, vS b76 1000 1000), (17, vI (nf : Int)), (18, vI (na : Int)), (19, vI (nm : Int)), (20, vI (k : Int))] ∧ kk0 = S.length - k ∧ (k ≤ S.length) ∧ (nf = sumK (cF S.length l xl (stX S)) k) ∧ (na = sumK (cB S.length l xl) k) ∧ (nm = mxK (cB S.length l xl) k) ∧ HP Tr we ww0 [.cel b76 (brow 1000 (Bl l xl)) 4]) (S.length) [(1, .slice p S.length cp), (2, .slice pl xl.length cl), (3, vP b3 0), (8, vI ((runX (S.length : Int) y l xl (stX S, 0)).2 : Int)), (15, vS b76 1000 1000), (17, vI 0), (18, vI 0), (19, vI 0), (20, vI 0)] ⟨rfl, rfl, rfl, rfl, rfl, rfl, rfl, rfl, rfl, trivial⟩ ⟨0, 0, 0, 0, rfl, rfl, Nat.zero_le _, rfl, rfl, rfl, (HP.eq hH29 (by rw [List.take_of_length_le (by omega)]))⟩ ?_
          rintro kk l w41 ⟨k, nf, na, nm, rfl, hkk, hk, hnf, hna, hnm, hH42⟩ K40 hK40
          refine WC.seq fun K43 hK43 => WC.seq fun K44 hK44 => WC.region ?_
          refine WL.z (v := vI (k : Int)) 92 ?_
          refine WL.z (v := vP b3 0) 93 ?_
          refine WL.y (v := vI (S.length : Int)) 94 (x_load rfl rfl Try.underlying3 rfl ((HP.oldRange hH42 trivial (hbox2 0 (by omega))) 0 _ rfl)) ?_
          by_cases hlt2 : (k : Int) < (S.length : Int)
          ·
            refine WL.y (v := .bool true) 95 (x_lss rfl rfl rfl (dT (hlt2))) ?_
            refine WL.nil (WQ.then (hK44 _ _ _ (WC.yes rfl (WC.skip (WQ.then (hK43 _ _ _ (WC.seq fun K45 hK45 => ?_)))))))
            refine WC.block (WC.seq fun K46 hK46 => ?_)
            have hb1 := sumK_bd (fun i => cF_le S.length l xl (stX S) i) k
            have hb2 := sumK_bd (fun i => cB_le S.length l xl i) k
            have hb3 := mxK_bd (fun i => cB_le S.length l xl i) k
            refine WC.region ?_
            refine WL.z (v := vI 0) 21 ?_
            refine WL.nil (WQ.then (hK46 _ _ _ (WC.seq fun K47 hK47 => WC.seq fun K48 hK48 => WC.region ?_)))
            refine WL.z (v := vI (k : Int)) 98 ?_
            refine WL.z (v := vI (k : Int)) 22 ?_
            refine WL.nil (WQ.then (hK48 _ _ _ (WC.block ?_)))
            refine WC.loop (fun kk0 ll0 ww0 => ∃ (L : Nat) (nb : Nat) (nf : Nat), ll0 = [(1, .slice p S.length cp), (2, .slice pl xl.length cl), (3, vP b3 0), (8, vI ((runX (S.length : Int) y l xl (stX S, 0)).2 : Int)), (15, vS b76 1000 1000), (17, vI (nf : Int)), (18, vI (na : Int)), (19, vI (nm : Int)), (20, vI (k : Int)), (21, vI (nb : Int)), (22, vI (L : Int))] ∧ kk0 = 2000 - L ∧ (L % S.length = k) ∧ (L ≤ 1008) ∧ (nb = cN (iS S.length k (Bl l xl)) L) ∧ (nf = sumK (cF S.length l xl (stX S)) k + cN (iS S.length k (Fq S.length l xl (stX S))) L) ∧ HP Tr we ww0 [.cel b76 (brow 1000 (Bl l xl)) 4]) (2000 - k) [(1, .slice p S.length cp), (2, .slice pl xl.length cl), (3, vP b3 0), (8, vI ((runX (S.length : Int) y l xl (stX S, 0)).2 : Int)), (15, vS b76 1000 1000), (17, vI (nf : Int)), (18, vI (na : Int)), (19, vI (nm : Int)), (20, vI (k : Int)), (21, vI 0), (22, vI (k : Int))] ⟨rfl, rfl, rfl, rfl, rfl, rfl, rfl, rfl, rfl, rfl, rfl, trivial⟩ ⟨k, 0, nf, rfl, rfl, Nat.mod_eq_of_lt (by omega), by omega, (cN_start (by omega)).symm, by rw [cN_start (by omega), hnf]; rfl, hH42⟩ ?_
            rintro kk l w50 ⟨L, nb, nf, rfl, hkk, hLm, hLb, hnb, hnf, hH51⟩ K49 hK49
            have hc1 := cN_le (iS S.length k (Bl l xl)) L
            have hc2 := cN_le (iS S.length k (Fq S.length l xl (stX S))) L
            refine WC.seq fun K52 hK52 => WC.seq fun K53 hK53 => WC.region ?_
            refine WL.z (v := vI (L : Int)) 99 ?_
            by_cases hlt3 : (L : Int) < 1000
            ·
              refine WL.y (v := .bool true) 100 (x_lss rfl rfl rfl (dT (hlt3))) ?_
              refine WL.nil (WQ.then (hK53 _ _ _ (WC.yes rfl (WC.skip (WQ.then (hK52 _ _ _ (WC.seq fun K54 hK54 => ?_)))))))
              refine WC.block (WC.seq fun K55 hK55 => WC.seq fun K56 hK56 => WC.region ?_)
              refine WL.z (v := vS b76 1000 1000) 105 ?_
              refine WL.z (v := vI (L : Int)) 106 ?_
              refine WL.y (v := vP b76 L) 107 (x_idx (L) (L) rfl rfl rfl Try.underlying39 sz4 (by omega) (by omega) (by omega)) ?_
              refine WL.y (v := .bool (Bl l xl L)) 108 (x_load rfl rfl Try.underlying4 rfl (HP.cell hH51 0 rfl (brow_get (by omega) rfl))) ?_
              refine WL.z (v := .bool (!(Bl l xl L))) 109 ?_
              refine WL.nil (WQ.then (hK56 _ _ _ ?_))
              rcases Bool.eq_false_or_eq_true (Bl l xl L) with hB | hB
              ·
                refine WC.no (congrArg (fun b => some (Value.bool (!b))) hB) ?_
                refine WC.skip (WQ.then (hK55 _ _ _ (WC.seq fun K57 hK57 => WC.region ?_)))
                refine WL.z (v := vI (nb : Int)) 110 ?_
                refine WL.y (v := vI ((nb + 1 : Nat) : Int)) 111 (x_add (Z := ((nb + 1 : Nat) : Int)) rfl rfl rfl (by omega) (by omega) (by omega)) ?_
                refine WL.z (v := vI ((nb + 1 : Nat) : Int)) 21 ?_
                refine WL.nil (WQ.then (hK57 _ _ _ ?_))
                refine WC.sub (l' := [(1, .slice p S.length cp), (2, .slice pl xl.length cl), (3, vP b3 0), (8, vI ((runX (S.length : Int) y l xl (stX S, 0)).2 : Int)), (15, vS b76 1000 1000), (17, vI (nf : Int)), (18, vI (na : Int)), (19, vI (nm : Int)), (20, vI (k : Int)), (21, vI ((nb + 1 : Nat) : Int)), (22, vI (L : Int)), (100, .bool true), (109, .bool (!(Bl l xl L)))]) ⟨rfl, rfl, rfl, rfl, rfl, rfl, rfl, rfl, rfl, rfl, rfl, rfl, rfl, trivial⟩ ?_
                refine WC.seq fun K58 hK58 => WC.region ?_
                refine WL.z (v := .bool false) 23 ?_
                refine WL.nil (WQ.then (hK58 _ _ _ (WC.seq fun K59 hK59 => WC.seq fun K60 hK60 => ?_)))
                obtain ⟨⟨rq, rxs, rc⟩, hr⟩ : ∃ r, S[k]? = some r := ⟨S[k]'(by omega), List.getElem?_eq_getElem _⟩
                obtain ⟨hr1, hr2, hr3, hr4⟩ := stX_at hr
                have hIR := hS.inn.inn _ hr4
                have hrl9 := hrl _ hr4
                simp only [] at hr1 hr2 hrl9
                obtain ⟨gS, oS, hpS, hrowS⟩ := hS.inn.row (by omega)
                subst hpS
                refine WC.region ?_
                refine WL.z (v := vI 0) 24 ?_
                refine WL.nil (WQ.then (hK60 _ _ _ (WC.block ?_)))
                refine WC.loop (fun kk0 ll0 ww0 => ∃ (i : Nat) (tb : Bool), ll0 = [(1, .slice (some ⟨gS, oS, none⟩) S.length cp), (2, .slice pl xl.length cl), (3, vP b3 0), (8, vI ((runX (S.length : Int) y l xl (stX S, 0)).2 : Int)), (15, vS b76 1000 1000), (17, vI (nf : Int)), (18, vI (na : Int)), (19, vI (nm : Int)), (20, vI (k : Int)), (21, vI ((nb + 1 : Nat) : Int)), (22, vI (L : Int)), (23, .bool tb), (24, vI (i : Int))] ∧ kk0 = rxs.length - i ∧ (i ≤ rxs.length) ∧ (tb = (rxs.take i).contains (L : Int)) ∧ HP Tr we ww0 [.cel b76 (brow 1000 (Bl l xl)) 4]) (rxs.length) [(1, .slice (some ⟨gS, oS, none⟩) S.length cp), (2, .slice pl xl.length cl), (3, vP b3 0), (8, vI ((runX (S.length : Int) y l xl (stX S, 0)).2 : Int)), (15, vS b76 1000 1000), (17, vI (nf : Int)), (18, vI (na : Int)), (19, vI (nm : Int)), (20, vI (k : Int)), (21, vI ((nb + 1 : Nat) : Int)), (22, vI (L : Int)), (23, .bool false), (24, vI 0)] ⟨rfl, rfl, rfl, rfl, rfl, rfl, rfl, rfl, rfl, rfl, rfl, rfl, rfl, trivial⟩ ⟨0, false, rfl, rfl, Nat.zero_le _, rfl, hH51⟩ ?_
                rintro kk l w62 ⟨i, tb, rfl, hkk, hi4, htb, hH63⟩ K61 hK61
                refine WC.seq fun K64 hK64 => WC.seq fun K65 hK65 => WC.region ?_
                refine WL.z (v := vI (i : Int)) 112 ?_
                refine WL.z (v := .slice (some ⟨gS, oS, none⟩) S.length cp) 113 ?_
                refine WL.z (v := vI (k : Int)) 114 ?_
                refine WL.y (v := vP gS (oS + k)) 115 (x_idx (k) (oS + k) rfl rfl rfl Try.underlying24 sz33 (by omega) (by omega) (by omega)) ?_
                refine WL.y (v := .slice rq rxs.length rc) 116 (x_load rfl rfl Try.underlying33 rfl ((HP.oldRange hH63 trivial (show World.rangeAt we gS (oS + k) [slV ⟨rq, rxs, rc⟩] by have q9 := hrowS k (by omega); rw [hr2] at q9; exact q9)) 0 _ rfl)) ?_
                refine WL.z (v := vI (rxs.length : Int)) 117 ?_
                by_cases hlt4 : (i : Int) < (rxs.length : Int)
                ·
                  refine WL.y (v := .bool true) 118 (x_lss rfl rfl rfl (dT (hlt4))) ?_
                  refine WL.nil (WQ.then (hK65 _ _ _ ?_))
                  refine WC.sub (l' := [(1, .slice (some ⟨gS, oS, none⟩) S.length cp), (2, .slice pl xl.length cl), (3, vP b3 0), (8, vI ((runX (S.length : Int) y l xl (stX S, 0)).2 : Int)), (15, vS b76 1000 1000), (17, vI (nf : Int)), (18, vI (na : Int)), (19, vI (nm : Int)), (20, vI (k : Int)), (21, vI ((nb + 1 : Nat) : Int)), (22, vI (L : Int)), (23, .bool tb), (24, vI (i : Int)), (118, .bool true)]) ⟨rfl, rfl, rfl, rfl, rfl, rfl, rfl, rfl, rfl, rfl, rfl, rfl, rfl, rfl, trivial⟩ ?_
                  refine WC.yes rfl (WC.skip (WQ.then (hK64 _ _ _ (WC.seq fun K66 hK66 => WC.block ?_))))
                  obtain ⟨gX, oX, hqX, hrowX⟩ := hIR.row (show 0 < rxs.length by omega)
                  simp only [] at hqX hrowX
                  subst hqX
                  cases tb with
                  | true =>
                    refine WC.region ?_
                    refine WL.z (v := .bool true) 121 ?_
                    refine WL.z (v := .bool true) 122 ?_
                    refine WL.p 123 ?_
                    refine WL.p 124 ?_
                    refine WL.p 125 ?_
                    refine WL.p 126 ?_
                    refine WL.p 127 ?_
                    refine WL.p 128 ?_
                    refine WL.p 129 ?_
                    refine WL.p 130 ?_
                    refine WL.p 131 ?_
                    refine WL.z (v := .bool true) 132 ?_
                    refine WL.z (v := .bool true) 23 ?_
                    refine WL.nil (WQ.inNormal (WQ.then (hK66 _ _ _ ?_)))
                    refine WC.sub (l' := [(1, .slice (some ⟨gS, oS, none⟩) S.length cp), (2, .slice pl xl.length cl), (3, vP b3 0), (8, vI ((runX (S.length : Int) y l xl (stX S, 0)).2 : Int)), (15, vS b76 1000 1000), (17, vI (nf : Int)), (18, vI (na : Int)), (19, vI (nm : Int)), (20, vI (k : Int)), (21, vI ((nb + 1 : Nat) : Int)), (22, vI (L : Int)), (23, .bool true), (24, vI (i : Int)), (118, .bool true)]) ⟨rfl, rfl, rfl, rfl, rfl, rfl, rfl, rfl, rfl, rfl, rfl, rfl, rfl, rfl, trivial⟩ ?_
                    refine WC.region ?_
                    refine WL.z (v := vI (i : Int)) 119 ?_
                    refine WL.y (v := vI ((i + 1 : Nat) : Int)) 120 (x_add (Z := ((i + 1 : Nat) : Int)) rfl rfl rfl (by omega) (by omega) (by omega)) ?_
                    refine WL.z (v := vI ((i + 1 : Nat) : Int)) 24 ?_
                    refine WL.nil ?_
                    refine WQ.sub (l' := [(1, .slice (some ⟨gS, oS, none⟩) S.length cp), (2, .slice pl xl.length cl), (3, vP b3 0), (8, vI ((runX (S.length : Int) y l xl (stX S, 0)).2 : Int)), (15, vS b76 1000 1000), (17, vI (nf : Int)), (18, vI (na : Int)), (19, vI (nm : Int)), (20, vI (k : Int)), (21, vI ((nb + 1 : Nat) : Int)), (22, vI (L : Int)), (23, .bool true), (24, vI ((i + 1 : Nat) : Int))]) ⟨rfl, rfl, rfl, rfl, rfl, rfl, rfl, rfl, rfl, rfl, rfl, rfl, rfl, trivial⟩ ?_
                    refine WQ.then (hK61 _ _ _ (by omega) ⟨i + 1, true, rfl, rfl, by omega, by rw [take_contains (by omega), ← htb]; rfl, hH63⟩)
                  | false =>
                    refine WC.region ?_
                    refine WL.z (v := .bool false) 121 ?_
                    refine WL.z (v := .bool false) 122 ?_
                    refine WL.z (v := .slice (some ⟨gS, oS, none⟩) S.length cp) 123 ?_
                    refine WL.z (v := vI (k : Int)) 124 ?_
                    refine WL.y (v := vP gS (oS + k)) 125 (x_idx (k) (oS + k) rfl rfl rfl Try.underlying24 sz33 (by omega) (by omega) (by omega)) ?_
                    refine WL.y (v := .slice (some ⟨gX, oX, none⟩) rxs.length rc) 126 (x_load rfl rfl Try.underlying33 rfl ((HP.oldRange hH63 trivial (show World.rangeAt we gS (oS + k) [slV ⟨(some ⟨gX, oX, none⟩), rxs, rc⟩] by have q9 := hrowS k (by omega); rw [hr2] at q9; exact q9)) 0 _ rfl)) ?_
                    refine WL.z (v := vI (i : Int)) 127 ?_
                    refine WL.y (v := vP gX (oX + i)) 128 (x_idx (i) (oX + i) rfl rfl rfl Try.underlying33 sz3 (by omega) (by omega) (by omega)) ?_
                    refine WL.y (v := vI (rxs.getD i 0)) 129 (x_load rfl rfl Try.underlying3 rfl ((HP.oldRange hH63 trivial (hrowX i (by omega))) 0 _ rfl)) ?_
                    refine WL.z (v := vI (L : Int)) 130 ?_
                    by_cases he : rxs.getD i 0 = (L : Int)
                    ·
                      refine WL.y (v := .bool true) 131 (x_eql rfl rfl rfl (dT (he))) ?_
                      refine WL.z (v := .bool true) 132 ?_
                      refine WL.z (v := .bool true) 23 ?_
                      refine WL.nil (WQ.inNormal (WQ.then (hK66 _ _ _ ?_)))
                      refine WC.sub (l' := [(1, .slice (some ⟨gS, oS, none⟩) S.length cp), (2, .slice pl xl.length cl), (3, vP b3 0), (8, vI ((runX (S.length : Int) y l xl (stX S, 0)).2 : Int)), (15, vS b76 1000 1000), (17, vI (nf : Int)), (18, vI (na : Int)), (19, vI (nm : Int)), (20, vI (k : Int)), (21, vI ((nb + 1 : Nat) : Int)), (22, vI (L : Int)), (23, .bool true), (24, vI (i : Int)), (118, .bool true)]) ⟨rfl, rfl, rfl, rfl, rfl, rfl, rfl, rfl, rfl, rfl, rfl, rfl, rfl, rfl, trivial⟩ ?_
                      refine WC.region ?_
                      refine WL.z (v := vI (i : Int)) 119 ?_
                      refine WL.y (v := vI ((i + 1 : Nat) : Int)) 120 (x_add (Z := ((i + 1 : Nat) : Int)) rfl rfl rfl (by omega) (by omega) (by omega)) ?_
                      refine WL.z (v := vI ((i + 1 : Nat) : Int)) 24 ?_
                      refine WL.nil ?_
                      refine WQ.sub (l' := [(1, .slice (some ⟨gS, oS, none⟩) S.length cp), (2, .slice pl xl.length cl), (3, vP b3 0), (8, vI ((runX (S.length : Int) y l xl (stX S, 0)).2 : Int)), (15, vS b76 1000 1000), (17, vI (nf : Int)), (18, vI (na : Int)), (19, vI (nm : Int)), (20, vI (k : Int)), (21, vI ((nb + 1 : Nat) : Int)), (22, vI (L : Int)), (23, .bool true), (24, vI ((i + 1 : Nat) : Int))]) ⟨rfl, rfl, rfl, rfl, rfl, rfl, rfl, rfl, rfl, rfl, rfl, rfl, rfl, trivial⟩ ?_
                      refine WQ.then (hK61 _ _ _ (by omega) ⟨i + 1, true, rfl, rfl, by omega, by rw [take_contains (by omega), ← htb, decide_eq_true he]; rfl, hH63⟩)
                    ·
                      refine WL.y (v := .bool false) 131 (x_eql rfl rfl rfl (dF (he))) ?_
                      refine WL.z (v := .bool false) 132 ?_
                      refine WL.z (v := .bool false) 23 ?_
                      refine WL.nil (WQ.inNormal (WQ.then (hK66 _ _ _ ?_)))
                      refine WC.sub (l' := [(1, .slice (some ⟨gS, oS, none⟩) S.length cp), (2, .slice pl xl.length cl), (3, vP b3 0), (8, vI ((runX (S.length : Int) y l xl (stX S, 0)).2 : Int)), (15, vS b76 1000 1000), (17, vI (nf : Int)), (18, vI (na : Int)), (19, vI (nm : Int)), (20, vI (k : Int)), (21, vI ((nb + 1 : Nat) : Int)), (22, vI (L : Int)), (23, .bool false), (24, vI (i : Int)), (118, .bool true)]) ⟨rfl, rfl, rfl, rfl, rfl, rfl, rfl, rfl, rfl, rfl, rfl, rfl, rfl, rfl, trivial⟩ ?_
                      refine WC.region ?_
                      refine WL.z (v := vI (i : Int)) 119 ?_
                      refine WL.y (v := vI ((i + 1 : Nat) : Int)) 120 (x_add (Z := ((i + 1 : Nat) : Int)) rfl rfl rfl (by omega) (by omega) (by omega)) ?_
                      refine WL.z (v := vI ((i + 1 : Nat) : Int)) 24 ?_
                      refine WL.nil ?_
                      refine WQ.sub (l' := [(1, .slice (some ⟨gS, oS, none⟩) S.length cp), (2, .slice pl xl.length cl), (3, vP b3 0), (8, vI ((runX (S.length : Int) y l xl (stX S, 0)).2 : Int)), (15, vS b76 1000 1000), (17, vI (nf : Int)), (18, vI (na : Int)), (19, vI (nm : Int)), (20, vI (k : Int)), (21, vI ((nb + 1 : Nat) : Int)), (22, vI (L : Int)), (23, .bool false), (24, vI ((i + 1 : Nat) : Int))]) ⟨rfl, rfl, rfl, rfl, rfl, rfl, rfl, rfl, rfl, rfl, rfl, rfl, rfl, trivial⟩ ?_
                      refine WQ.then (hK61 _ _ _ (by omega) ⟨i + 1, false, rfl, rfl, by omega, by rw [take_contains (by omega), ← htb, decide_eq_false he]; rfl, hH63⟩)
                ·
                  refine WL.y (v := .bool false) 118 (x_lss rfl rfl rfl (dF (hlt4))) ?_
                  refine WL.nil (WQ.then (hK65 _ _ _ ?_))
                  refine WC.sub (l' := [(1, .slice (some ⟨gS, oS, none⟩) S.length cp), (2, .slice pl xl.length cl), (3, vP b3 0), (8, vI ((runX (S.length : Int) y l xl (stX S, 0)).2 : Int)), (15, vS b76 1000 1000), (17, vI (nf : Int)), (18, vI (na : Int)), (19, vI (nm : Int)), (20, vI (k : Int)), (21, vI ((nb + 1 : Nat) : Int)), (22, vI (L : Int)), (23, .bool tb), (24, vI (i : Int)), (118, .bool false)]) ⟨rfl, rfl, rfl, rfl, rfl, rfl, rfl, rfl, rfl, rfl, rfl, rfl, rfl, rfl, trivial⟩ ?_
                  refine WC.no rfl (WC.exit (WQ.thenExit (WQ.thenExit (WQ.inExit (WQ.then (hK59 _ _ _ (WC.seq fun K67 hK67 => ?_)))))))
                  have htb2 : tb = rxs.contains (L : Int) := by rw [htb, List.take_of_length_le (by omega)]
                  have hFq : Fq S.length l xl (stX S) L = !tb := by unfold Fq; rw [hB, hLm, hr1, htb2, Bool.true_and]
                  refine WC.region ?_
                  refine WL.z (v := .bool tb) 133 ?_
                  refine WL.z (v := .bool (!tb)) 134 ?_
                  refine WL.nil (WQ.then (hK67 _ _ _ ?_))
                  rcases Bool.eq_false_or_eq_true (tb) with ht | ht
                  ·
                    refine WC.no (congrArg (fun b => some (Value.bool (!b))) ht) ?_
                    refine WC.skip (WQ.inNormal (WQ.then (hK54 _ _ _ (WC.region ?_))))
                    refine WL.z (v := vI (L : Int)) 101 ?_
                    refine WL.z (v := vP b3 0) 102 ?_
                    refine WL.y (v := vI (S.length : Int)) 103 (x_load rfl rfl Try.underlying3 rfl ((HP.oldRange hH63 trivial (hbox2 0 (by omega))) 0 _ rfl)) ?_
                    refine WL.y (v := vI ((L + S.length : Nat) : Int)) 104 (x_add (Z := ((L + S.length : Nat) : Int)) rfl rfl rfl (by omega) (by omega) (by omega)) ?_
                    refine WL.z (v := vI ((L + S.length : Nat) : Int)) 22 ?_
                    refine WL.nil ?_
                    have hLm2 : (L + S.length) % S.length = k := by rw [Nat.add_mod_right]; exact hLm
                    have hcb : cN (iS S.length k (Bl l xl)) (L + S.length) = cN (iS S.length k (Bl l xl)) L + 1 := by rw [cN_stride (by omega) hLm inS_set, inS_at hLm, hB]; rfl
                    have hcf : cN (iS S.length k (Fq S.length l xl (stX S))) (L + S.length) = cN (iS S.length k (Fq S.length l xl (stX S))) L + 0 := by rw [cN_stride (by omega) hLm inS_set, inS_at hLm, show Fq S.length l xl (stX S) L = false from (by rw [hFq, ht]; rfl)]; rfl
                    refine WQ.sub (l' := [(1, .slice (some ⟨gS, oS, none⟩) S.length cp), (2, .slice pl xl.length cl), (3, vP b3 0), (8, vI ((runX (S.length : Int) y l xl (stX S, 0)).2 : Int)), (15, vS b76 1000 1000), (17, vI (nf : Int)), (18, vI (na : Int)), (19, vI (nm : Int)), (20, vI (k : Int)), (21, vI ((nb + 1 : Nat) : Int)), (22, vI ((L + S.length : Nat) : Int))]) ⟨rfl, rfl, rfl, rfl, rfl, rfl, rfl, rfl, rfl, rfl, rfl, trivial⟩ ?_
                    refine WQ.then (hK49 _ _ _ (by omega) ⟨L + S.length, nb + 1, nf, rfl, rfl, hLm2, by omega, by rw [hcb]; omega, by rw [hcf]; omega, hH63⟩)
                  ·
                    refine WC.yes (congrArg (fun b => some (Value.bool (!b))) ht) ?_
                    refine WC.region ?_
                    refine WL.z (v := vI (nf : Int)) 135 ?_
                    refine WL.y (v := vI ((nf + 1 : Nat) : Int)) 136 (x_add (Z := ((nf + 1 : Nat) : Int)) rfl rfl rfl (by omega) (by omega) (by omega)) ?_
                    refine WL.z (v := vI ((nf + 1 : Nat) : Int)) 17 ?_
                    refine WL.nil (WQ.inNormal (WQ.then (hK54 _ _ _ (WC.region ?_))))
                    refine WL.z (v := vI (L : Int)) 101 ?_
                    refine WL.z (v := vP b3 0) 102 ?_
                    refine WL.y (v := vI (S.length : Int)) 103 (x_load rfl rfl Try.underlying3 rfl ((HP.oldRange hH63 trivial (hbox2 0 (by omega))) 0 _ rfl)) ?_
                    refine WL.y (v := vI ((L + S.length : Nat) : Int)) 104 (x_add (Z := ((L + S.length : Nat) : Int)) rfl rfl rfl (by omega) (by omega) (by omega)) ?_
                    refine WL.z (v := vI ((L + S.length : Nat) : Int)) 22 ?_
                    refine WL.nil ?_
                    have hLm2 : (L + S.length) % S.length = k := by rw [Nat.add_mod_right]; exact hLm
                    have hcb : cN (iS S.length k (Bl l xl)) (L + S.length) = cN (iS S.length k (Bl l xl)) L + 1 := by rw [cN_stride (by omega) hLm inS_set, inS_at hLm, hB]; rfl
                    have hcf : cN (iS S.length k (Fq S.length l xl (stX S))) (L + S.length) = cN (iS S.length k (Fq S.length l xl (stX S))) L + 1 := by rw [cN_stride (by omega) hLm inS_set, inS_at hLm, show Fq S.length l xl (stX S) L = true from (by rw [hFq, ht]; rfl)]; rfl
                    refine WQ.sub (l' := [(1, .slice (some ⟨gS, oS, none⟩) S.length cp), (2, .slice pl xl.length cl), (3, vP b3 0), (8, vI ((runX (S.length : Int) y l xl (stX S, 0)).2 : Int)), (15, vS b76 1000 1000), (17, vI ((nf + 1 : Nat) : Int)), (18, vI (na : Int)), (19, vI (nm : Int)), (20, vI (k : Int)), (21, vI ((nb + 1 : Nat) : Int)), (22, vI ((L + S.length : Nat) : Int))]) ⟨rfl, rfl, rfl, rfl, rfl, rfl, rfl, rfl, rfl, rfl, rfl, trivial⟩ ?_
                    refine WQ.then (hK49 _ _ _ (by omega) ⟨L + S.length, nb + 1, nf + 1, rfl, rfl, hLm2, by omega, by rw [hcb]; omega, by rw [hcf]; omega, hH63⟩)
              ·
                refine WC.yes (congrArg (fun b => some (Value.bool (!b))) hB) ?_
                refine WC.exit (WQ.thenExit (WQ.inExit (WQ.then (hK54 _ _ _ (WC.region ?_)))))
                refine WL.z (v := vI (L : Int)) 101 ?_
                refine WL.z (v := vP b3 0) 102 ?_
                refine WL.y (v := vI (S.length : Int)) 103 (x_load rfl rfl Try.underlying3 rfl ((HP.oldRange hH51 trivial (hbox2 0 (by omega))) 0 _ rfl)) ?_
                refine WL.y (v := vI ((L + S.length : Nat) : Int)) 104 (x_add (Z := ((L + S.length : Nat) : Int)) rfl rfl rfl (by omega) (by omega) (by omega)) ?_
                refine WL.z (v := vI ((L + S.length : Nat) : Int)) 22 ?_
                refine WL.nil ?_
                have hLm2 : (L + S.length) % S.length = k := by rw [Nat.add_mod_right]; exact hLm
                have hcb : cN (iS S.length k (Bl l xl)) (L + S.length) = cN (iS S.length k (Bl l xl)) L + 0 := by rw [cN_stride (by omega) hLm inS_set, inS_at hLm, hB]; rfl
                have hcf : cN (iS S.length k (Fq S.length l xl (stX S))) (L + S.length) = cN (iS S.length k (Fq S.length l xl (stX S))) L + 0 := by rw [cN_stride (by omega) hLm inS_set, inS_at hLm, show Fq S.length l xl (stX S) L = false from (by unfold Fq; rw [hB]; rfl)]; rfl
                refine WQ.sub (l' := [(1, .slice p S.length cp), (2, .slice pl xl.length cl), (3, vP b3 0), (8, vI ((runX (S.length : Int) y l xl (stX S, 0)).2 : Int)), (15, vS b76 1000 1000), (17, vI (nf : Int)), (18, vI (na : Int)), (19, vI (nm : Int)), (20, vI (k : Int)), (21, vI (nb : Int)), (22, vI ((L + S.length : Nat) : Int))]) ⟨rfl, rfl, rfl, rfl, rfl, rfl, rfl, rfl, rfl, rfl, rfl, trivial⟩ ?_
                refine WQ.then (hK49 _ _ _ (by omega) ⟨L + S.length, nb, nf, rfl, rfl, hLm2, by omega, by rw [hcb]; omega, by rw [hcf]; omega, hH51⟩)
            ·
              refine WL.y (v := .bool false) 100 (x_lss rfl rfl rfl (dF (hlt3))) ?_
              refine WL.nil (WQ.then (hK53 _ _ _ (WC.no rfl (WC.exit (WQ.thenExit (WQ.thenExit (WQ.inExit ?_)))))))
              refine WQ.then (hK47 _ _ _ (WC.seq fun K68 hK68 => ?_))
              have hnb2 : nb = cB S.length l xl k := by rw [hnb]; exact cN_end (fun z hz => Bl_lt ⟨hlb1, hlb2⟩ hal hz) (by omega)
              have hnf2 : nf = sumK (cF S.length l xl (stX S)) (k + 1) := by rw [hnf, cN_end (fun z hz => Fq_lt ⟨hlb1, hlb2⟩ hal hz) (by omega)]; rfl
              have hbb := cB_le S.length l xl k
              refine WC.region ?_
              refine WL.z (v := vI (na : Int)) 137 ?_
              refine WL.z (v := vI (nb : Int)) 138 ?_
              refine WL.y (v := vI ((na + nb : Nat) : Int)) 139 (x_add (Z := ((na + nb : Nat) : Int)) rfl rfl rfl (by omega) (by omega) (by omega)) ?_
              refine WL.z (v := vI ((na + nb : Nat) : Int)) 18 ?_
              refine WL.nil (WQ.then (hK68 _ _ _ (WC.region ?_)))
              refine WL.z (v := vI (nm : Int)) 140 ?_
              refine WL.z (v := vI (nb : Int)) 141 ?_
              refine WL.y (v := vI ((max nm nb : Nat) : Int)) 142 (x_max (Z := ((max nm nb : Nat) : Int)) (t := 0) rfl rfl rfl (by rw [Nat.max_def]; split <;> split <;> omega)) ?_
              refine WL.z (v := vI ((max nm nb : Nat) : Int)) 19 ?_
              refine WL.nil (WQ.inNormal (WQ.then (hK45 _ _ _ ?_)))
              refine WC.sub (l' := [(1, .slice p S.length cp), (2, .slice pl xl.length cl), (3, vP b3 0), (8, vI ((runX (S.length : Int) y l xl (stX S, 0)).2 : Int)), (15, vS b76 1000 1000), (17, vI (nf : Int)), (18, vI ((na + nb : Nat) : Int)), (19, vI ((max nm nb : Nat) : Int)), (20, vI (k : Int)), (21, vI (nb : Int)), (22, vI (L : Int)), (100, .bool false)]) ⟨rfl, rfl, rfl, rfl, rfl, rfl, rfl, rfl, rfl, rfl, rfl, rfl, trivial⟩ ?_
              refine WC.region ?_
              refine WL.z (v := vI (k : Int)) 96 ?_
              refine WL.y (v := vI ((k + 1 : Nat) : Int)) 97 (x_add (Z := ((k + 1 : Nat) : Int)) rfl rfl rfl (by omega) (by omega) (by omega)) ?_
              refine WL.z (v := vI ((k + 1 : Nat) : Int)) 20 ?_
              refine WL.nil ?_
              refine WQ.sub (l' := [(1, .slice p S.length cp), (2, .slice pl xl.length cl), (3, vP b3 0), (8, vI ((runX (S.length : Int) y l xl (stX S, 0)).2 : Int)), (15, vS b76 1000 1000), (17, vI (nf : Int)), (18, vI ((na + nb : Nat) : Int)), (19, vI ((max nm nb : Nat) : Int)), (20, vI ((k + 1 : Nat) : Int))]) ⟨rfl, rfl, rfl, rfl, rfl, rfl, rfl, rfl, rfl, trivial⟩ ?_
              refine WQ.then (hK40 _ _ _ (by omega) ⟨k + 1, nf, na + nb, max nm nb, rfl, rfl, by omega, hnf2, by rw [hna, hnb2]; rfl, by rw [hnm, hnb2]; rfl, hH51⟩)
          ·
            refine WL.y (v := .bool false) 95 (x_lss rfl rfl rfl (dF (hlt2))) ?_
            refine WL.nil (WQ.then (hK44 _ _ _ (WC.no rfl (WC.exit (WQ.thenExit (WQ.thenExit (WQ.inExit ?_)))))))
            refine WQ.then (hK38 _ _ _ (WC.seq fun K69 hK69 => WC.seq fun K70 hK70 => ?_))
            have hke : k = S.length := by omega
            have hge := miss1 hok hal
            rw [hke] at hnf hna hnm
            have hms : (nm : Int) ≤ y → (runX (S.length : Int) y l xl (List.replicate S.length [], 0)).2 + na = xl.length := fun h9 => by rw [hna]; exact miss2 hg hal (by rw [← hnm]; exact h9)
            refine WC.region ?_
            refine WL.z (v := .slice pl xl.length cl) 143 ?_
            refine WL.z (v := vI (xl.length : Int)) 144 ?_
            refine WL.z (v := vI ((runX (S.length : Int) y l xl (stX S, 0)).2 : Int)) 145 ?_
            refine WL.y (v := vI ((xl.length : Int) - ((runX (S.length : Int) y l xl (stX S, 0)).2 : Int))) 146 (x_sub (Z := (xl.length : Int) - ((runX (S.length : Int) y l xl (stX S, 0)).2 : Int)) rfl rfl rfl (by omega) (by omega) (by omega)) ?_
            refine WL.z (v := vI (nf : Int)) 147 ?_
            refine WL.y (v := .bool false) 148 (x_lss rfl rfl rfl (dF (by omega))) ?_
            refine WL.nil (WQ.then (hK70 _ _ _ ?_))
            refine WC.sub (l' := [(1, .slice p S.length cp), (2, .slice pl xl.length cl), (3, vP b3 0), (8, vI ((runX (S.length : Int) y l xl (stX S, 0)).2 : Int)), (15, vS b76 1000 1000), (17, vI (nf : Int)), (18, vI (na : Int)), (19, vI (nm : Int)), (20, vI (k : Int)), (95, .bool false), (148, .bool false)]) ⟨rfl, rfl, rfl, rfl, rfl, rfl, rfl, rfl, rfl, rfl, rfl, trivial⟩ ?_
            refine WC.no rfl (WC.skip (WQ.then (hK69 _ _ _ (WC.seq fun K71 hK71 => WC.seq fun K72 hK72 => WC.region ?_))))
            refine WL.z (v := vI (nm : Int)) 149 ?_
            refine WL.z (v := vP b3 1) 150 ?_
            refine WL.y (v := vI y) 151 (x_load rfl rfl Try.underlying3 rfl ((HP.oldRange hH42 trivial (hbox2 0 (by omega))) 1 _ rfl)) ?_
            by_cases h152 : (nm : Int) ≤ y
            ·
              have hms2 := hms h152
              have hle2 := run_len (s := (S.length : Int)) (y := y) (l := l) xl (List.replicate S.length [])
              refine WL.y (v := .bool true) 152 (x_leq rfl rfl rfl (dT (h152))) ?_
              refine WL.nil (WQ.then (hK72 _ _ _ (WC.yes rfl (WC.seq fun K73 hK73 => ?_))))
              refine WC.confG (γ := Nat × Option Addr × Nat × List SlI × Unit) [(152, .bool true), (151, vI y), (150, vP b3 1), (149, vI (nm : Int)), (1, .slice p S.length cp), (2, .slice pl xl.length cl), (3, vP b3 0), (8, vI ((runX (S.length : Int) y l xl (stX S, 0)).2 : Int)), (15, vS b76 1000 1000), (17, vI (nf : Int)), (18, vI (na : Int)), (19, vI (nm : Int)), (20, vI (k : Int)), (95, .bool false), (148, .bool false)] (fun gy => [.agg #[vI (S.length : Int), vI y, vI l, vI m], vP b3 0, vI (S.length : Int), vS gy.1 S.length S.length, .slice pl xl.length cl, .tuple #[.slice gy.2.1 gy.2.2.2.1.length gy.2.2.1, vI ((runX (S.length : Int) y l xl (List.replicate S.length [], 0)).2 : Int), vI 0], .tuple #[.slice gy.2.1 gy.2.2.2.1.length gy.2.2.1, vI ((runX (S.length : Int) y l xl (List.replicate S.length [], 0)).2 : Int), vI 0], .slice gy.2.1 gy.2.2.2.1.length gy.2.2.1, vI ((runX (S.length : Int) y l xl (List.replicate S.length [], 0)).2 : Int), vI 0, .slice gy.2.1 gy.2.2.2.1.length gy.2.2.1, vI ((runX (S.length : Int) y l xl (List.replicate S.length [], 0)).2 : Int), vI 0]) (fun gy D wz => HP Tr we wz ([.cel b76 (brow 1000 (Bl l xl)) 4] ++ ((bif D 3 then [Ent.cel gy.1 (nilR S.length) 33] else []) ++ []))) (0, none, 0, [], ()) (by kernel_rfl) ⟨rfl, rfl, rfl, rfl, rfl, rfl, rfl, rfl, rfl, rfl, rfl, rfl, rfl, rfl, rfl, trivial⟩ (by kernel_rfl) (by kernel_rfl) (by kernel_rfl) (fun _ => rfl) (by kernel_rfl) (HP.drew hH42) ?_ ?_
              · refine AllOk.cons ?o0 (AllOk.cons ?o1 (AllOk.cons ?o2 (AllOk.cons ?o3 (AllOk.cons ?o4 (AllOk.cons ?o5 (AllOk.cons ?o6 (AllOk.cons ?o7 (AllOk.cons ?o8 (AllOk.cons ?o9 (AllOk.cons ?o10 (AllOk.cons ?o11 (AllOk.cons ?o12 (AllOk.nil _)))))))))))))
                case o0 =>
                  intro gy D wz hDi hdep hclo hW
                  exact .inl ⟨rfl, rfl, .inl ⟨gy, wz, fun _ _ => rfl, x_loadS (cs := [vI (S.length : Int), vI y, vI l, vI m]) rfl rfl Try.underlying23 rfl sz23 (HP.oldRange hW trivial (hbox2 0 (by omega))), hW⟩⟩
                case o1 =>
                  intro gy D wz hDi hdep hclo hW
                  exact .inl ⟨rfl, rfl, .inl ⟨gy, wz, fun _ _ => rfl, by kernel_rfl, hW⟩⟩
                case o2 =>
                  intro gy D wz hDi hdep hclo hW
                  exact .inl ⟨rfl, rfl, .inl ⟨gy, wz, fun _ _ => rfl, x_load rfl rfl Try.underlying3 rfl ((HP.oldRange hW trivial (hbox2 0 (by omega))) 0 _ rfl), hW⟩⟩
                case o3 =>
                  intro gy D wz hDi hdep hclo hW
                  have hW2 := hW
                  try simp only [hDi, cond_true, cond_false, List.append_nil, List.nil_append, List.cons_append] at hW2
                  refine cf_alloc (c := nilR S.length) (T := 33) hW2 (fun b157 => vS b157 S.length S.length) rfl rfl (x_makeR rfl rfl rfl (makeS2 S.length (by omega) _)) ?_
                  rintro b157 w3 hA
                  refine ⟨⟨b157, gy.2.1, gy.2.2.1, gy.2.2.2.1, ()⟩, fun j hj => ?_, rfl, ?_⟩
                  · match j, hj with
                    | 0, hj => rfl
                    | 1, hj => rfl
                    | 2, hj => rfl
                    | 3, hj => rw [hDi] at hj; cases hj
                    | 4, hj => rfl
                    | 5, hj => rfl
                    | 6, hj => rfl
                    | 7, hj => rfl
                    | 8, hj => rfl
                    | 9, hj => rfl
                    | 10, hj => rfl
                    | 11, hj => rfl
                    | 12, hj => rfl
                    | j + 13, _ => rfl
                  · show HP Tr we w3 ([.cel b76 (brow 1000 (Bl l xl)) 4] ++ ([Ent.cel b157 (nilR S.length) 33] ++ []))
                    try simp only [cond_true, cond_false, List.append_nil, List.nil_append, List.cons_append]
                    exact hA
                case o4 =>
                  intro gy D wz hDi hdep hclo hW
                  exact .inl ⟨rfl, rfl, .inl ⟨gy, wz, fun _ _ => rfl, by kernel_rfl, hW⟩⟩
                case o5 =>
                  intro gy D wz hDi hdep hclo hW
                  have d3 : D 3 = true := hdep ⟨3, .data⟩ (by simp) rfl
                  have d6 : D 6 = false := by
                    cases h : D 6 with
                    | false => rfl
                    | true => exact absurd (hclo 6 _ rfl h ⟨5, .data⟩ (by simp) rfl) (by rw [hDi]; exact Bool.false_ne_true)
                  have d7 : D 7 = false := by
                    cases h : D 7 with
                    | false => rfl
                    | true => exact absurd (hclo 7 _ rfl h ⟨6, .data⟩ (by simp) rfl) (by rw [d6]; exact Bool.false_ne_true)
                  have d10 : D 10 = false := by
                    cases h : D 10 with
                    | false => rfl
                    | true => exact absurd (hclo 10 _ rfl h ⟨5, .chain⟩ (by simp) rfl) (by rw [hDi]; exact Bool.false_ne_true)
                  have hW2 := hW
                  try simp only [d3, hDi, cond_true, cond_false, List.append_nil, List.nil_append, List.cons_append] at hW2
                  refine .inl ⟨rfl, rfl, .inr (.inr ⟨17, #[.agg #[vI (S.length : Int), vI y, vI l, vI m], vS gy.1 S.length S.length, .slice pl xl.length cl], by kernel_rfl, (Run_yes3 (RunNil gy.1 S.length y l m pl xl cl _ (by omega) (nil_in hW2 1 rfl) (hL.inn.below (HP.below hW2)) (by omega)) (ok_nil hg (by omega) hal)).mono ?_⟩)⟩
                  rintro e w3 ⟨p9, c9, S9, rfl, hX9, hI9, hbr⟩
                  have hA := HP.call hW2 hbr
                  refine ⟨⟨gy.1, p9, c9, S9, ()⟩, fun j hj => ?_, rfl, ?_⟩
                  · match j, hj with
                    | 0, hj => rfl
                    | 1, hj => rfl
                    | 2, hj => rfl
                    | 3, hj => rfl
                    | 4, hj => rfl
                    | 5, hj => rw [hDi] at hj; cases hj
                    | 6, hj => exact absurd hj (by rw [d6]; exact Bool.false_ne_true)
                    | 7, hj => exact absurd hj (by rw [d7]; exact Bool.false_ne_true)
                    | 8, hj => rfl
                    | 9, hj => rfl
                    | 10, hj => exact absurd hj (by rw [d10]; exact Bool.false_ne_true)
                    | 11, hj => rfl
                    | 12, hj => rfl
                    | j + 13, _ => rfl
                  · show HP Tr we w3 ([.cel b76 (brow 1000 (Bl l xl)) 4] ++ ((bif D 3 then [Ent.cel gy.1 (nilR S.length) 33] else []) ++ []))
                    try simp only [d3, cond_true, cond_false, List.append_nil, List.nil_append, List.cons_append]
                    exact hA
                case o6 =>
                  intro gy D wz hDi hdep hclo hW
                  exact .inl ⟨rfl, rfl, .inl ⟨gy, wz, fun _ _ => rfl, by kernel_rfl, hW⟩⟩
                case o7 =>
                  intro gy D wz hDi hdep hclo hW
                  exact .inl ⟨rfl, rfl, .inl ⟨gy, wz, fun _ _ => rfl, by kernel_rfl, hW⟩⟩
                case o8 =>
                  intro gy D wz hDi hdep hclo hW
                  exact .inl ⟨rfl, rfl, .inl ⟨gy, wz, fun _ _ => rfl, by kernel_rfl, hW⟩⟩
                case o9 =>
                  intro gy D wz hDi hdep hclo hW
                  exact .inl ⟨rfl, rfl, .inl ⟨gy, wz, fun _ _ => rfl, by kernel_rfl, hW⟩⟩
                case o10 =>
                  intro gy D wz hDi hdep hclo hW
                  exact .inl ⟨rfl, rfl, .inl ⟨gy, wz, fun _ _ => rfl, by kernel_rfl, hW⟩⟩
                case o11 =>
                  intro gy D wz hDi hdep hclo hW
                  exact .inl ⟨rfl, rfl, .inl ⟨gy, wz, fun _ _ => rfl, by kernel_rfl, hW⟩⟩
                case o12 =>
                  intro gy D wz hDi hdep hclo hW
                  exact .inl ⟨rfl, rfl, .inl ⟨gy, wz, fun _ _ => rfl, by kernel_rfl, hW⟩⟩
              rintro ⟨b157, p9, c9, S9, gu⟩ D w74 hall hH75
              simp only [hall 3 (by kernel_rfl), cond_true, List.append_nil, List.nil_append, List.cons_append] at hH75
              clear hall
              refine WQ.sub (l' := [(1, .slice p S.length cp), (2, .slice pl xl.length cl), (3, vP b3 0), (8, vI ((runX (S.length : Int) y l xl (stX S, 0)).2 : Int)), (15, vS b76 1000 1000), (17, vI (nf : Int)), (18, vI (na : Int)), (19, vI (nm : Int)), (20, vI (k : Int)), (26, vI ((runX (S.length : Int) y l xl (List.replicate S.length [], 0)).2 : Int)), (27, vI 0), (95, .bool false), (148, .bool false), (152, .bool true)]) ⟨rfl, rfl, rfl, rfl, rfl, rfl, rfl, rfl, rfl, rfl, rfl, rfl, rfl, rfl, trivial⟩ ?_
              refine WQ.then (hK73 _ _ _ (WC.seq fun K76 hK76 => WC.region ?_))
              refine WL.z (v := vI 0) 163 ?_
              refine WL.y (v := .bool false) 164 (x_neq rfl rfl rfl (by decide)) ?_
              refine WL.z (v := .bool false) 165 ?_
              refine WL.z (v := .slice pl xl.length cl) 166 ?_
              refine WL.z (v := vI (xl.length : Int)) 167 ?_
              refine WL.z (v := vI ((runX (S.length : Int) y l xl (List.replicate S.length [], 0)).2 : Int)) 168 ?_
              refine WL.y (v := vI ((xl.length : Int) - ((runX (S.length : Int) y l xl (List.replicate S.length [], 0)).2 : Int))) 169 (x_sub (Z := (xl.length : Int) - ((runX (S.length : Int) y l xl (List.replicate S.length [], 0)).2 : Int)) rfl rfl rfl (by omega) (by omega) (by omega)) ?_
              refine WL.z (v := vI (na : Int)) 170 ?_
              refine WL.y (v := .bool false) 171 (x_neq rfl rfl rfl (dF (fun h => h (by omega)))) ?_
              refine WL.z (v := .bool false) 172 ?_
              refine WL.nil (WQ.then (hK76 _ _ _ ?_))
              refine WC.sub (l' := [(1, .slice p S.length cp), (2, .slice pl xl.length cl), (3, vP b3 0), (8, vI ((runX (S.length : Int) y l xl (stX S, 0)).2 : Int)), (15, vS b76 1000 1000), (17, vI (nf : Int)), (18, vI (na : Int)), (19, vI (nm : Int)), (20, vI (k : Int)), (26, vI ((runX (S.length : Int) y l xl (List.replicate S.length [], 0)).2 : Int)), (27, vI 0), (95, .bool false), (148, .bool false), (152, .bool true), (172, .bool false)]) ⟨rfl, rfl, rfl, rfl, rfl, rfl, rfl, rfl, rfl, rfl, rfl, rfl, rfl, rfl, rfl, trivial⟩ ?_
              refine WC.no rfl (WC.skip (WQ.then (hK71 _ _ _ (WC.seq fun K77 hK77 => WC.region ?_))))
              refine WL.call (f := 16) (args := #[]) 173 rfl (Nat.le_of_ble_eq_true rfl) rfl rfl (by kernel_rfl) ?_
              refine (sane_any _).mono ?_
              rintro e w78 ⟨rfl, hb79⟩
              refine ⟨_, rfl, ?_⟩
              have hH80 : HP Tr we _ [.cel b76 (brow 1000 (Bl l xl)) 4, .cel b157 (nilR S.length) 33] := HP.call hH75 hb79
              refine WL.z (v := .bool true) 6 ?_
              refine WL.nil (WQ.then (hK77 _ _ _ (WC.ret ?_)))
              refine WQ.ret1 6 rfl rfl ?_
              exact ⟨rfl, HP.below (HP.call hBk2 (HP.below hH80))⟩
            ·
              refine WL.y (v := .bool false) 152 (x_leq rfl rfl rfl (dF (h152))) ?_
              refine WL.nil (WQ.then (hK72 _ _ _ (WC.no rfl (WC.skip (WQ.then (hK71 _ _ _ (WC.seq fun K81 hK81 => ?_)))))))
              refine WC.region ?_
              refine WL.call (f := 16) (args := #[]) 173 rfl (Nat.le_of_ble_eq_true rfl) rfl rfl (by kernel_rfl) ?_
              refine (sane_any _).mono ?_
              rintro e w82 ⟨rfl, hb83⟩
              refine ⟨_, rfl, ?_⟩
              have hH84 : HP Tr we _ [.cel b76 (brow 1000 (Bl l xl)) 4] := HP.call hH42 hb83
              refine WL.z (v := .bool true) 6 ?_
              refine WL.nil (WQ.then (hK81 _ _ _ (WC.ret ?_)))
              refine WQ.ret1 6 rfl rfl ?_
              exact ⟨rfl, HP.below (HP.call hBk2 (HP.below hH84))⟩
      ·
        refine WC.confG (γ := Option Addr × Nat × List SlI × Unit) [(0, .agg #[vI (S.length : Int), vI y, vI l, vI m]), (1, .slice p S.length cp), (2, .slice pl xl.length cl), (3, vP b3 0), (6, .bool false), (36, .bool false)] (fun gy => [.agg #[vI (S.length : Int), vI y, vI l, vI m], .slice p S.length cp, .slice gy.1 gy.2.2.1.length gy.2.1, .slice pl xl.length cl, .tuple #[.slice none 0 0, vI 0, vI 1], .tuple #[.slice none 0 0, vI 0, vI 1], .slice none 0 0, vI 0, vI 1, .slice none 0 0, vI 0, vI 1]) (fun gy D wz => HP Tr w wz [.cel b3 #[vI (S.length : Int), vI y, vI l, vI m] 23] ∧ (D 2 = true → (stX gy.2.2.1 = stX S ∧ InS2 wz gy.1 gy.2.2.1))) (none, 0, [], ()) (by kernel_rfl) ⟨rfl, rfl, rfl, rfl, rfl, rfl, trivial⟩ (by kernel_rfl) (by kernel_rfl) (by kernel_rfl) (fun _ => rfl) (by kernel_rfl) (⟨HP.drew hH9, (fun h => by cases h)⟩) ?_ ?_
        · refine AllOk.cons ?o0 (AllOk.cons ?o1 (AllOk.cons ?o2 (AllOk.cons ?o3 (AllOk.cons ?o4 (AllOk.cons ?o5 (AllOk.cons ?o6 (AllOk.cons ?o7 (AllOk.cons ?o8 (AllOk.cons ?o9 (AllOk.cons ?o10 (AllOk.cons ?o11 (AllOk.nil _))))))))))))
          case o0 =>
            rintro gy D wz hDi hdep hclo ⟨hW, hX0⟩
            exact .inl ⟨rfl, rfl, .inl ⟨gy, wz, fun _ _ => rfl, x_loadS (cs := [vI (S.length : Int), vI y, vI l, vI m]) rfl rfl Try.underlying23 rfl sz23 (HP.range hW 0 rfl rfl), ⟨hW, hX0⟩⟩⟩
          case o1 =>
            rintro gy D wz hDi hdep hclo ⟨hW, hX0⟩
            exact .inl ⟨rfl, rfl, .inl ⟨gy, wz, fun _ _ => rfl, by kernel_rfl, ⟨hW, hX0⟩⟩⟩
          case o2 =>
            rintro gy D wz hDi hdep hclo ⟨hW, hX0⟩
            have hW2 := hW
            try simp only [hDi, cond_true, cond_false, List.append_nil, List.nil_append, List.cons_append] at hW2
            refine .inl ⟨rfl, rfl, .inr (.inr ⟨11, #[.slice p S.length cp], by kernel_rfl, (own3_any p S cp _ (hS.below (HP.below hW2))).mono ?_⟩)⟩
            rintro e w3 ⟨pt, ct, S1, rfl, hXo, hIo, hbo⟩
            have hA := HP.call hW2 hbo
            refine ⟨⟨pt, ct, S1, ()⟩, fun j hj => ?_, rfl, ⟨?_, fun _ => ⟨hXo, hIo⟩⟩⟩
            · match j, hj with
              | 0, hj => rfl
              | 1, hj => rfl
              | 2, hj => rw [hDi] at hj; cases hj
              | 3, hj => rfl
              | 4, hj => rfl
              | 5, hj => rfl
              | 6, hj => rfl
              | 7, hj => rfl
              | 8, hj => rfl
              | 9, hj => rfl
              | 10, hj => rfl
              | 11, hj => rfl
              | j + 12, _ => rfl
            · show HP Tr w w3 [.cel b3 #[vI (S.length : Int), vI y, vI l, vI m] 23]
              try simp only [cond_true, cond_false, List.append_nil, List.nil_append, List.cons_append]
              exact hA
          case o3 =>
            rintro gy D wz hDi hdep hclo ⟨hW, hX0⟩
            exact .inl ⟨rfl, rfl, .inl ⟨gy, wz, fun _ _ => rfl, by kernel_rfl, ⟨hW, hX0⟩⟩⟩
          case o4 =>
            rintro gy D wz hDi hdep hclo ⟨hW, hX0⟩
            have d2 : D 2 = true := hdep ⟨2, .data⟩ (by simp) rfl
            have hW2 := hW
            try simp only [hDi, cond_true, cond_false, List.append_nil, List.nil_append, List.cons_append] at hW2
            refine .inl ⟨rfl, rfl, .inr (.inr ⟨17, #[.agg #[vI (S.length : Int), vI y, vI l, vI m], .slice gy.1 gy.2.2.1.length gy.2.1, .slice pl xl.length cl], by kernel_rfl, (Run_no3 (Run3_any (S.length : Int) y l m gy.1 gy.2.2.1 gy.2.1 pl xl cl _ (hX0 d2).2 (hX0 d2).1 hm0 (hL.inn.below (HP.below hW2)) (by omega)) hr1).mono ?_⟩)⟩
            rintro e w3 ⟨rfl, hbr⟩
            have hA := HP.call hW2 hbr
            refine ⟨⟨gy.1, gy.2.1, gy.2.2.1, ()⟩, fun j hj => ?_, rfl, ⟨?_, fun h9 => ⟨(hX0 h9).1, (hX0 h9).2.below hbr⟩⟩⟩
            · match j, hj with
              | 0, hj => rfl
              | 1, hj => rfl
              | 2, hj => rfl
              | 3, hj => rfl
              | 4, hj => rfl
              | 5, hj => rfl
              | 6, hj => rfl
              | 7, hj => rfl
              | 8, hj => rfl
              | 9, hj => rfl
              | 10, hj => rfl
              | 11, hj => rfl
              | j + 12, _ => rfl
            · show HP Tr w w3 [.cel b3 #[vI (S.length : Int), vI y, vI l, vI m] 23]
              try simp only [cond_true, cond_false, List.append_nil, List.nil_append, List.cons_append]
              exact hA
          case o5 =>
            rintro gy D wz hDi hdep hclo ⟨hW, hX0⟩
            exact .inl ⟨rfl, rfl, .inl ⟨gy, wz, fun _ _ => rfl, by kernel_rfl, ⟨hW, hX0⟩⟩⟩
          case o6 =>
            rintro gy D wz hDi hdep hclo ⟨hW, hX0⟩
            exact .inl ⟨rfl, rfl, .inl ⟨gy, wz, fun _ _ => rfl, by kernel_rfl, ⟨hW, hX0⟩⟩⟩
          case o7 =>
            rintro gy D wz hDi hdep hclo ⟨hW, hX0⟩
            exact .inl ⟨rfl, rfl, .inl ⟨gy, wz, fun _ _ => rfl, by kernel_rfl, ⟨hW, hX0⟩⟩⟩
          case o8 =>
            rintro gy D wz hDi hdep hclo ⟨hW, hX0⟩
            exact .inl ⟨rfl, rfl, .inl ⟨gy, wz, fun _ _ => rfl, by kernel_rfl, ⟨hW, hX0⟩⟩⟩
          case o9 =>
            rintro gy D wz hDi hdep hclo ⟨hW, hX0⟩
            exact .inl ⟨rfl, rfl, .inl ⟨gy, wz, fun _ _ => rfl, by kernel_rfl, ⟨hW, hX0⟩⟩⟩
          case o10 =>
            rintro gy D wz hDi hdep hclo ⟨hW, hX0⟩
            exact .inl ⟨rfl, rfl, .inl ⟨gy, wz, fun _ _ => rfl, by kernel_rfl, ⟨hW, hX0⟩⟩⟩
          case o11 =>
            rintro gy D wz hDi hdep hclo ⟨hW, hX0⟩
            exact .inl ⟨rfl, rfl, .inl ⟨gy, wz, fun _ _ => rfl, by kernel_rfl, ⟨hW, hX0⟩⟩⟩
        rintro ⟨pt, ct, S1, gu⟩ D w85 hall ⟨hH86, hX0⟩
        have hO1 := hX0 (hall 2 (by kernel_rfl))
        clear hX0
        clear hall
        refine WQ.sub (l' := [(0, .agg #[vI (S.length : Int), vI y, vI l, vI m]), (1, .slice p S.length cp), (2, .slice pl xl.length cl), (3, vP b3 0), (6, .bool false), (8, vI 0), (9, vI 1), (36, .bool false)]) ⟨rfl, rfl, rfl, rfl, rfl, rfl, rfl, rfl, trivial⟩ ?_
        have hbw1 := HP.below hH86
        have hbox1 : ∀ i9, i9 < 1 → World.rangeAt w85 b3 i9 [vI (S.length : Int), vI y, vI l, vI m] := fun i9 h9 => match i9, h9 with | 0, _ => HP.range hH86 0 rfl rfl | n + 1, h9 => absurd h9 (by omega)
        replace hS := hS.below hbw1
        replace hL := hL.below hbw1
        have hBk1 := HP.call (HP.refl (S := Tr) w) hbw1
        have hH87 : HP Tr w85 w85 [] := HP.refl w85
        refine WQ.then (hK14 _ _ _ (WC.seq fun K88 hK88 => WC.region ?_))
        refine WL.y (v := .agg #[vI (S.length : Int), vI y, vI l, vI m]) 48 (x_loadS (cs := [vI (S.length : Int), vI y, vI l, vI m]) rfl rfl Try.underlying23 rfl sz23 (HP.oldRange hH87 trivial (hbox1 0 (by omega)))) ?_
        refine WL.call (f := 20) (args := #[.agg #[vI (S.length : Int), vI y, vI l, vI m]]) 49 rfl (Nat.le_of_ble_eq_true rfl) rfl rfl (by kernel_rfl) ?_
        refine (rEmpty_yes (S.length : Int) y l m _ hg).mono ?_
        rintro e we ⟨g9, rfl, hb⟩
        refine ⟨_, rfl, ?_⟩
        have hH89 : HP Tr w85 _ [] := HP.call hH87 hb
        have hbw2 := HP.below hH89
        have hbox2 : ∀ i9, i9 < 1 → World.rangeAt we b3 i9 [vI (S.length : Int), vI y, vI l, vI m] := fun i9 h9 => HP.oldRange hH89 trivial (hbox1 i9 h9)
        replace hS := hS.below hbw2
        replace hL := hL.below hbw2
        have hBk2 := HP.call hBk1 hbw2
        have hH90 : HP Tr we we [] := HP.refl we
        refine WL.z (v := .tuple #[vS g9 ((S.length : Int).toNat) ((S.length : Int).toNat), vI 0]) 47 ?_
        refine WL.z (v := vS g9 ((S.length : Int).toNat) ((S.length : Int).toNat)) 50 ?_
        refine WL.z (v := vI 0) 51 ?_
        refine WL.z (v := vS g9 ((S.length : Int).toNat) ((S.length : Int).toNat)) 10 ?_
        refine WL.z (v := vI 0) 11 ?_
        refine WL.nil (WQ.then (hK88 _ _ _ ?_))
        refine WC.sub (l' := [(0, .agg #[vI (S.length : Int), vI y, vI l, vI m]), (1, .slice p S.length cp), (2, .slice pl xl.length cl), (3, vP b3 0), (6, .bool false), (8, vI 0), (9, vI 1), (11, vI 0), (36, .bool false)]) ⟨rfl, rfl, rfl, rfl, rfl, rfl, rfl, rfl, rfl, trivial⟩ ?_
        refine WC.seq fun K91 hK91 => WC.seq fun K92 hK92 => WC.region ?_
        refine WL.z (v := vI 1) 52 ?_
        refine WL.y (v := .bool true) 53 (x_neq rfl rfl rfl (by decide)) ?_
        refine WL.z (v := .bool true) 54 ?_
        refine WL.p 55 ?_
        refine WL.p 56 ?_
        refine WL.z (v := .bool true) 57 ?_
        refine WL.nil (WQ.then (hK92 _ _ _ (WC.yes rfl (WC.seq fun K93 hK93 => WC.region ?_))))
        refine WL.y (v := .agg #[vI (S.length : Int), vI y, vI l, vI m]) 59 (x_loadS (cs := [vI (S.length : Int), vI y, vI l, vI m]) rfl rfl Try.underlying23 rfl sz23 (HP.oldRange hH90 trivial (hbox2 0 (by omega)))) ?_
        refine WL.z (v := .slice p S.length cp) 60 ?_
        refine WL.z (v := .slice pl xl.length cl) 61 ?_
        refine WL.call (f := 18) (args := #[.agg #[vI (S.length : Int), vI y, vI l, vI m], .slice p S.length cp, .slice pl xl.length cl]) 62 rfl (Nat.le_of_ble_eq_true rfl) rfl rfl (by kernel_rfl) ?_
        refine (Run_no3 (rRun3_any (S.length : Int) y l m p S cp pl xl cl _ (hS.below (HP.below hH90)) rfl ((hL.below (HP.below hH90))).inn (by omega)) hr1).mono ?_
        rintro e w94 ⟨rfl, hb95⟩
        refine ⟨_, rfl, ?_⟩
        have hH96 : HP Tr we _ [] := HP.call hH90 hb95
        refine WL.z (v := .tuple #[.slice none 0 0, vI 0, vI 1]) 58 ?_
        refine WL.z (v := .slice none 0 0) 63 ?_
        refine WL.z (v := vI 0) 64 ?_
        refine WL.z (v := vI 1) 65 ?_
        refine WL.z (v := .slice none 0 0) 12 ?_
        refine WL.z (v := vI 0) 13 ?_
        refine WL.z (v := vI 1) 14 ?_
        refine WL.nil (WQ.then (hK93 _ _ _ ?_))
        refine WC.sub (l' := [(0, .agg #[vI (S.length : Int), vI y, vI l, vI m]), (1, .slice p S.length cp), (2, .slice pl xl.length cl), (3, vP b3 0), (6, .bool false), (8, vI 0), (9, vI 1), (11, vI 0), (14, vI 1), (36, .bool false), (57, .bool true)]) ⟨rfl, rfl, rfl, rfl, rfl, rfl, rfl, rfl, rfl, rfl, rfl, trivial⟩ ?_
        refine WC.seq fun K97 hK97 => WC.region ?_
        refine WL.z (v := vI 1) 66 ?_
        refine WL.z (v := vI 1) 67 ?_
        refine WL.y (v := .bool true) 68 (x_eql rfl rfl rfl (by decide)) ?_
        refine WL.z (v := .bool true) 69 ?_
        refine WL.z (v := vI 0) 70 ?_
        refine WL.y (v := .bool true) 71 (x_eql rfl rfl rfl (by decide)) ?_
        refine WL.z (v := .bool true) 72 ?_
        refine WL.z (v := .bool true) 73 ?_
        refine WL.call (f := 16) (args := #[]) 74 rfl (Nat.le_of_ble_eq_true rfl) rfl rfl (by kernel_rfl) ?_
        refine (sane_any _).mono ?_
        rintro e w98 ⟨rfl, hb99⟩
        refine ⟨_, rfl, ?_⟩
        have hH100 : HP Tr we _ [] := HP.call hH96 hb99
        refine WL.z (v := .bool true) 75 ?_
        refine WL.z (v := .bool true) 6 ?_
        refine WL.nil (WQ.then (hK97 _ _ _ ?_))
        refine WC.sub (l' := [(0, .agg #[vI (S.length : Int), vI y, vI l, vI m]), (1, .slice p S.length cp), (2, .slice pl xl.length cl), (3, vP b3 0), (6, .bool true), (8, vI 0), (9, vI 1), (11, vI 0), (14, vI 1), (36, .bool false), (57, .bool true)]) ⟨rfl, rfl, rfl, rfl, rfl, rfl, rfl, rfl, rfl, rfl, rfl, trivial⟩ ?_
        refine WC.ret ?_
        refine WQ.thenRet ?_
        refine WQ.ret1 6 rfl rfl ?_
        exact ⟨rfl, HP.below (HP.call hBk2 (HP.below hH100))⟩
  ·
    refine WC.seq fun K101 hK101 => WC.region ?_
    refine WL.alloc (c := #[vI s, vI y, vI l, vI m]) (T := 23) hH1 3 rfl (by decide) rfl rfl (fun b3 => vP b3 0) (by kernel_rfl) (fun b3 w102 hw102 => ?_)
    have hH103 : HP Tr w w102 [.cel b3 #[vI s, vI y, vI l, vI m] 23] := hw102.2
    have nb3 := hw102.1
    clear hw102
    refine WL.z (v := .bool false) 6 ?_
    refine WL.nil (WQ.then (hK101 _ _ _ (WC.seq fun K104 hK104 => WC.seq fun K105 hK105 => WC.region ?_)))
    refine WL.y (v := .agg #[vI s, vI y, vI l, vI m]) 28 (x_loadS (cs := [vI s, vI y, vI l, vI m]) rfl rfl Try.underlying23 rfl sz23 (HP.range hH103 0 rfl rfl)) ?_
    refine WL.z (v := .slice p S.length cp) 29 ?_
    refine WL.call (f := 19) (args := #[.agg #[vI s, vI y, vI l, vI m], .slice p S.length cp]) 30 rfl (Nat.le_of_ble_eq_true rfl) rfl rfl (by kernel_rfl) ?_
    refine (rVSt_at hok p S cp _ (hS.below (HP.below hH103)).inn rfl hm0).mono ?_
    rintro e w106 ⟨rfl, hb107⟩
    refine ⟨_, rfl, ?_⟩
    have hH108 : HP Tr w _ [.cel b3 #[vI s, vI y, vI l, vI m] 23] := HP.call hH103 hb107
    refine WL.z (v := .bool true) 31 ?_
    refine WL.z (v := .bool true) 32 ?_
    refine WL.p 33 ?_
    refine WL.p 34 ?_
    refine WL.p 35 ?_
    refine WL.z (v := .bool true) 36 ?_
    refine WL.nil (WQ.then (hK105 _ _ _ ?_))
    refine WC.sub (l' := [(0, .agg #[vI s, vI y, vI l, vI m]), (1, .slice p S.length cp), (2, .slice pl xl.length cl), (3, vP b3 0), (6, .bool false), (36, .bool true)]) ⟨rfl, rfl, rfl, rfl, rfl, rfl, trivial⟩ ?_
    refine WC.yes rfl (WC.seq fun K109 hK109 => WC.region ?_)
    refine WL.call (f := 16) (args := #[]) 37 rfl (Nat.le_of_ble_eq_true rfl) rfl rfl (by kernel_rfl) ?_
    refine (sane_any _).mono ?_
    rintro e w110 ⟨rfl, hb111⟩
    refine ⟨_, rfl, ?_⟩
    have hH112 : HP Tr w _ [.cel b3 #[vI s, vI y, vI l, vI m] 23] := HP.call hH108 hb111
    refine WL.z (v := .bool true) 6 ?_
    refine WL.nil (WQ.then (hK109 _ _ _ (WC.ret ?_)))
    refine WQ.thenRet ?_
    refine WQ.ret1 6 rfl rfl ?_
    exact ⟨rfl, HP.below (HP.call (HP.refl (S := Tr) w) (HP.below hH112))⟩

theorem own : ownKnob Try.prog.godebug = none := by kernel_rfl
theorem laidOut : laidOutB Try.prog = true := by kernel_rfl
theorem cells23 : Try.prog.cellsOf 23 = 4 := by kernel_rfl

set_option maxRecDepth 100000 in
theorem lifted (os : Os) (started : os.Started) (H : Type) (enc : TypeId × Value → H) :
    ReturnsInHanded {} Try.checked os 5 .any (Rows.cacheMissesSpec.pre6 enc Try.prog Try.f5 Rows.cacheMissesRow.domain false) (Rows.cacheMissesSpec.post enc Try.prog Try.f5 false true false false) := by
  refine returnsInHanded_of_change_sized (C := Try.checked) own started (by kernel_rfl) Try.func5
    (ChangeSpec.witness6 (enc := enc) (C := Try.checked) false ⟨#[], #[.agg #[.int .i64 0, .int .i64 0, .int .i64 0, .int .i64 0], .slice none 0 0, .slice none 0 0], []⟩ 8 (by kernel_rfl) (by kernel_rfl) (by kernel_rfl) (by kernel_rfl)) ?_
  intro W base args ds gs before hval0 hW hcnd hsz0 _
  have hval : ∀ (j : Nat) t v, Try.f5.params[j]? = some t → args[j]? = some v → Value.okWide Try.prog W .any base t v := hval0
  have hW' := hW
  obtain ⟨p, q, hA0, hV, rfl, hfz, hnd⟩ := hW
  have hA : DataW.TrodAll enc Try.prog W 0 (fun _ => true) true Try.f5.params.toList args.toList ds p := hA0
  have hsz : (DataW.weightsEach Try.prog (Try.f5.params.toList ++ Rows.cacheMissesSpec.plain.varTypes Try.prog) (ds ++ gs)).all (· ≤ reachBytes) = true := hsz0
  clear hsz0
  rw [Try.params5] at hA hval hsz
  obtain ⟨v0, vs0, d0, ds0, p0, q0, hargs, rfl, rfl, h0, r0⟩ := trodAll_cons hA
  obtain ⟨v1, vs1, d1, ds1, p1, q1, rfl, rfl, rfl, h1, r1⟩ := trodAll_cons r0
  obtain ⟨v2, vs2, d2, ds2, p2, q2, rfl, rfl, rfl, h2, r2⟩ := trodAll_cons r1
  obtain ⟨rfl, rfl, rfl⟩ := trodAll_nil r2
  obtain rfl : args = #[v0, v1, v2] := by cases args; simp_all
  obtain ⟨rfl, rfl⟩ := trodVars_none hV
  have k0 := h0
  have lt0 : ∀ x ∈ p0, x.block < W.heap.size := by obtain ⟨m, hm⟩ := k0; exact DataW.trod_lt m _ _ _ hm
  obtain ⟨c0_0, c0_1, c0_2, c0_3, y0_0, y0_1, y0_2, y0_3, m0, rfl, hd0, hp0, hy0_0, hy0_1, hy0_2, hy0_3⟩ := open_agg4 Try.underlying23 (by kernel_rfl) cells23 (hval 0 23 v0 rfl rfl) h0
  obtain ⟨a0_0, e0_0, -, w0_0⟩ := DataW.trod_int Try.underlying3 hy0_0
  simp at e0_0
  subst e0_0
  obtain ⟨a0_1, e0_1, -, w0_1⟩ := DataW.trod_int Try.underlying3 hy0_1
  simp at e0_1
  subst e0_1
  obtain ⟨a0_2, e0_2, -, w0_2⟩ := DataW.trod_int Try.underlying3 hy0_2
  simp at e0_2
  subst e0_2
  obtain ⟨a0_3, e0_3, -, w0_3⟩ := DataW.trod_int Try.underlying3 hy0_3
  simp at e0_3
  subst e0_3
  clear hd0 hp0
  have k1 := h1
  have lt1 : ∀ x ∈ p1, x.block < W.heap.size := by obtain ⟨m, hm⟩ := k1; exact DataW.trod_lt m _ _ _ hm
  obtain ⟨b1, n1, cap1, rfl⟩ := okWide_slice Try.underlying24 (hval 1 24 v1 rfl rfl)
  obtain ⟨S1, rfl, hS1⟩ := rowsS h1 (fun el sp he => ⟨sized_slice hsz (j := 1) (t := 24) rfl (by rw [he]; rfl) Try.underlying24, fun e1 sp1 hx => sized_inner hsz (j := 1) (t := 24) rfl (by rw [he]; rfl) Try.underlying24 Try.underlying33 hx⟩)
  have k2 := h2
  have lt2 : ∀ x ∈ p2, x.block < W.heap.size := by obtain ⟨m, hm⟩ := k2; exact DataW.trod_lt m _ _ _ hm
  obtain ⟨b2, n2, cap2, rfl⟩ := okWide_slice Try.underlying33 (hval 2 33 v2 rfl rfl)
  obtain ⟨S2, rfl, hS2⟩ := rowsI8 h2 (fun el sp he => sized_slice hsz (j := 2) (t := 33) rfl (by rw [he]; rfl) Try.underlying33)
  clear hA0 hval0
  refine (walk a0_0 a0_1 a0_2 a0_3 b1 cap1 S1 b2 cap2 S2 W w0_0 w0_1 w0_2 w0_3 hS1 hS2).mono fun e W' ⟨he, bel⟩ => ?_
  subst he
  exact ⟨_, rfl, _, _, _, [], _, [], hW', trodAll_mk1 (shut_bool Try.underlying4 _), (trodAll_cons_mk (Below.trod laidOut (by kernel_rfl) (of_decide_eq_true (by kernel_rfl)) k0 bel lt0) (trodAll_cons_mk (Below.trod laidOut (by kernel_rfl) (of_decide_eq_true (by kernel_rfl)) k1 bel lt1) (trodAll_cons_mk (Below.trod laidOut (by kernel_rfl) (of_decide_eq_true (by kernel_rfl)) k2 bel lt2) trodAll_mk0))), rfl, bel.frame _, fun h => by cases h⟩

theorem over : Rows.cacheMissesRow.holds Try.pinned (OpenSpec.ofChange Rows.cacheMissesSpec) :=
  OpenClaim.holds_of_wide 5 Try.f5 rfl rfl rfl rfl rfl rfl rfl ⟨rfl, rfl, rfl, rfl, rfl⟩ rfl rfl rfl rfl rfl (by kernel_rfl) Try.func5 (by kernel_rfl)
    (of_decide_eq_true (by kernel_rfl)) (by unfold Func.isWrapper; first | (rw [if_pos (by decide +kernel)]; kernel_rfl) | (rw [if_neg (by decide +kernel)]; exact ⟨rfl, rfl⟩))
    (fun os started H enc _ => lifted os started H enc)

/-- the statement -/
theorem proved : Rows.CacheMissesSaid := over
end Go.Proofs.Ytmjnakhpekbenaa.cacheMisses
