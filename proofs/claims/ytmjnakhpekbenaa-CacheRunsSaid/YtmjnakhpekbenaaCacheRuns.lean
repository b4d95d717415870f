/-
  The statement CacheRuns: for every geometry, state and addresses the law returns true.
  Conditions: none beyond those of the given row.
-/
import Derived.Test.YtmjnakhpekbenaaCacheRunsE
import Derived.Test.YtmjnakhpekbenaaRows
import Derived.ProofKit
import Derived.OpenShut
import Derived.ShutString
import Derived.ChangeOld
import Derived.Lib.SmallJoins
set_option linter.unusedVariables false
set_option linter.unusedSimpArgs false
namespace Go.Proofs.Ytmjnakhpekbenaa.cacheRuns
open Go.ChangeShapes Go.WideShapes Go.ChangeAt Go.RowKit Go.Joins
open Go.ChangeMaps (open_string shut_string)
open Fw Ca

set_option maxRecDepth 20000 in
set_option maxHeartbeats 4000000 in
theorem walk (s y l m : Int) (p : Option Addr) (cp : Nat) (S : List SlI) (pl : Option Addr) (cl : Nat) (xl : List Int) (pk : Option Addr) (ck : Nat) (xk : List Int) (w : World) (w0 : (Lit.int .i64 s).wf = true) (w1 : (Lit.int .i64 y).wf = true) (w2 : (Lit.int .i64 l).wf = true) (w3 : (Lit.int .i64 m).wf = true) (hS : StIn w p S) (hL : SlIn w pl cl xl) (hK : SlIn w pk ck xk) :
    Calls Try.prog 4 #[.agg #[vI s, vI y, vI l, vI m], .slice p S.length cp, .slice pl xl.length cl, .slice pk xk.length ck] w fun e w' => e = .returned (.bool true) ∧ Below w.heap.size w w' := by
  refine calls_of Try.func4 rfl (m := 103) rfl [(0, .agg #[vI s, vI y, vI l, vI m]), (1, .slice p S.length cp), (2, .slice pl xl.length cl), (3, .slice pk xk.length ck)] (Fr_enter [.agg #[vI s, vI y, vI l, vI m], .slice p S.length cp, .slice pl xl.length cl, .slice pk xk.length ck] 103 (Nat.le_of_ble_eq_true rfl)) ?_
  have hH1 : HP Tr w w [] := HP.refl w
  have hl1 := hL.len
  have hl2 := hK.len
  refine WC.seq fun K2 hK2 => ?_
  refine WC.region ?_
  refine WL.alloc (c := #[vI s, vI y, vI l, vI m]) (T := 23) hH1 4 rfl (by decide) rfl rfl (fun b4 => vP b4 0) (by kernel_rfl) (fun b4 w3 hw3 => ?_)
  have hH4 : HP Tr w w3 [.cel b4 #[vI s, vI y, vI l, vI m] 23] := hw3.2
  have nb4 := hw3.1
  clear hw3
  refine WL.pure (v := .bool false) 8 rfl (Nat.le_of_ble_eq_true rfl) rfl rfl (by kernel_rfl) ?_
  refine WL.nil ?_
  refine WQ.then ?_
  refine hK2 _ _ _ ?_
  refine WC.seq fun K5 hK5 => ?_
  refine WC.seq fun K6 hK6 => ?_
  refine WC.region ?_
  refine WL.pure (v := .slice pl xl.length cl) 22 rfl (Nat.le_of_ble_eq_true rfl) rfl rfl (by kernel_rfl) ?_
  refine WL.pure (v := vI (xl.length : Int)) 23 rfl (Nat.le_of_ble_eq_true rfl) rfl rfl (by kernel_rfl) ?_
  refine WL.pure (v := .slice pk xk.length ck) 24 rfl (Nat.le_of_ble_eq_true rfl) rfl rfl (by kernel_rfl) ?_
  refine WL.pure (v := vI (xk.length : Int)) 25 rfl (Nat.le_of_ble_eq_true rfl) rfl rfl (by kernel_rfl) ?_
  refine WL.pure (v := vI ((xl.length : Int) + (xk.length : Int))) 26 rfl (Nat.le_of_ble_eq_true rfl) rfl rfl (x_add (Z := (xl.length : Int) + (xk.length : Int)) rfl rfl rfl (by omega) (by omega) (by omega)) ?_
  by_cases h12 : (1200 : Int) < (xl.length : Int) + (xk.length : Int)
  ·
    refine WL.pure (v := .bool true) 27 rfl (Nat.le_of_ble_eq_true rfl) rfl rfl (x_gtr rfl rfl rfl (dT (h12))) ?_
    refine WL.nil ?_
    refine WQ.then ?_
    refine hK6 _ _ _ ?_
    refine WC.yes rfl ?_
    refine WC.seq fun K7 hK7 => ?_
    refine WC.region ?_
    refine WL.call (f := 16) (args := #[]) 28 rfl (Nat.le_of_ble_eq_true rfl) rfl rfl (by kernel_rfl) ?_
    refine (sane_any _).mono ?_
    rintro e w8 ⟨rfl, hb9⟩
    refine ⟨_, rfl, ?_⟩
    have hH10 : HP Tr w _ [.cel b4 #[vI s, vI y, vI l, vI m] 23] := HP.call hH4 hb9
    refine WL.pure (v := .bool true) 8 rfl (Nat.le_of_ble_eq_true rfl) rfl rfl (by kernel_rfl) ?_
    refine WL.nil ?_
    refine WQ.then ?_
    refine hK7 _ _ _ ?_
    refine WC.sub (l' := [(0, .agg #[vI s, vI y, vI l, vI m]), (1, .slice p S.length cp), (2, .slice pl xl.length cl), (3, .slice pk xk.length ck), (4, vP b4 0), (8, .bool true), (27, .bool true)]) ⟨rfl, rfl, rfl, rfl, rfl, rfl, rfl, trivial⟩ ?_
    refine WC.ret ?_
    refine WQ.thenRet ?_
    refine WQ.ret1 8 rfl rfl ?_
    exact ⟨rfl, HP.below (HP.call (HP.refl (S := Tr) w) (HP.below hH10))⟩
  ·
    refine WL.pure (v := .bool false) 27 rfl (Nat.le_of_ble_eq_true rfl) rfl rfl (x_gtr rfl rfl rfl (dF (h12))) ?_
    refine WL.nil ?_
    refine WQ.then ?_
    refine hK6 _ _ _ ?_
    refine WC.no rfl ?_
    refine WC.skip ?_
    refine WQ.then ?_
    refine hK5 _ _ _ ?_
    refine WC.seq fun K11 hK11 => ?_
    have hm0 := smX_in hS
    rcases Bool.eq_false_or_eq_true (runOk s y l m (stX S) xl) with hr1 | hr1
    ·
      refine WC.confG (γ := Option Addr × Nat × List SlI × Option Addr × Nat × List SlI × Unit) [(27, .bool false), (26, vI ((xl.length : Int) + (xk.length : Int))), (25, vI (xk.length : Int)), (24, .slice pk xk.length ck), (23, vI (xl.length : Int)), (22, .slice pl xl.length cl), (8, .bool false), (4, vP b4 0), (0, .agg #[vI s, vI y, vI l, vI m]), (1, .slice p S.length cp), (2, .slice pl xl.length cl), (3, .slice pk xk.length ck)] (fun gy => [.agg #[vI s, vI y, vI l, vI m], .slice p S.length cp, .slice gy.1 gy.2.2.1.length gy.2.1, .slice pl xl.length cl, .tuple #[.slice gy.2.2.2.1 gy.2.2.2.2.2.1.length gy.2.2.2.2.1, vI ((runX s y l xl (stX S, 0)).2 : Int), vI 0], .tuple #[.slice gy.2.2.2.1 gy.2.2.2.2.2.1.length gy.2.2.2.2.1, vI ((runX s y l xl (stX S, 0)).2 : Int), vI 0], .slice gy.2.2.2.1 gy.2.2.2.2.2.1.length gy.2.2.2.2.1, vI ((runX s y l xl (stX S, 0)).2 : Int), vI 0, .slice gy.2.2.2.1 gy.2.2.2.2.2.1.length gy.2.2.2.2.1, vI ((runX s y l xl (stX S, 0)).2 : Int), vI 0]) (fun gy D wz => HP Tr w wz [.cel b4 #[vI s, vI y, vI l, vI m] 23] ∧ (D 2 = true → (stX gy.2.2.1 = stX S ∧ InS2 wz gy.1 gy.2.2.1)) ∧ (D 4 = true → (stX gy.2.2.2.2.2.1 = (runX s y l xl (stX S, 0)).1 ∧ InS2 wz gy.2.2.2.1 gy.2.2.2.2.2.1))) (none, 0, [], none, 0, [], ()) (by kernel_rfl) ⟨rfl, rfl, rfl, rfl, rfl, rfl, rfl, rfl, rfl, rfl, rfl, rfl, trivial⟩ (by kernel_rfl) (by kernel_rfl) (by kernel_rfl) (fun _ => rfl) (by kernel_rfl) (⟨HP.drew hH4, (fun h => by cases h), (fun h => by cases h)⟩) ?_ ?_
      · refine AllOk.cons ?o0 (AllOk.cons ?o1 (AllOk.cons ?o2 (AllOk.cons ?o3 (AllOk.cons ?o4 (AllOk.cons ?o5 (AllOk.cons ?o6 (AllOk.cons ?o7 (AllOk.cons ?o8 (AllOk.cons ?o9 (AllOk.cons ?o10 (AllOk.cons ?o11 (AllOk.nil _))))))))))))
        case o0 =>
          rintro gy D wz hDi hdep hclo ⟨hW, hX0, hX1⟩
          exact .inl ⟨rfl, rfl, .inl ⟨gy, wz, fun _ _ => rfl, x_loadS (cs := [vI s, vI y, vI l, vI m]) rfl rfl Try.underlying23 rfl sz23 (HP.range hW 0 rfl rfl), ⟨hW, hX0, hX1⟩⟩⟩
        case o1 =>
          rintro gy D wz hDi hdep hclo ⟨hW, hX0, hX1⟩
          exact .inl ⟨rfl, rfl, .inl ⟨gy, wz, fun _ _ => rfl, by kernel_rfl, ⟨hW, hX0, hX1⟩⟩⟩
        case o2 =>
          rintro gy D wz hDi hdep hclo ⟨hW, hX0, hX1⟩
          have hW2 := hW
          try simp only [hDi, cond_true, cond_false, List.append_nil, List.nil_append, List.cons_append] at hW2
          refine .inl ⟨rfl, rfl, .inr (.inr ⟨11, #[.slice p S.length cp], by kernel_rfl, (own3_any p S cp _ (hS.below (HP.below hW2))).mono ?_⟩)⟩
          rintro e w3 ⟨pt, ct, S1, rfl, hXo, hIo, hbo⟩
          have hA := HP.call hW2 hbo
          refine ⟨⟨pt, ct, S1, gy.2.2.2.1, gy.2.2.2.2.1, gy.2.2.2.2.2.1, ()⟩, fun j hj => ?_, rfl, ⟨?_, fun _ => ⟨hXo, hIo⟩, fun h9 => ⟨(hX1 h9).1, (hX1 h9).2.below hbo⟩⟩⟩
          · match j, hj with
            | 0, hj => rfl
            | 1, hj => rfl
            | 2, hj => rw [hDi] at hj; cases hj
            | 3, hj => rfl
            | 4, hj => rfl
            | 5, hj => rfl
            | 6, hj => rfl
            | 7, hj => rfl
            | 8, hj => rfl
            | 9, hj => rfl
            | 10, hj => rfl
            | 11, hj => rfl
            | j + 12, _ => rfl
          · show HP Tr w w3 [.cel b4 #[vI s, vI y, vI l, vI m] 23]
            try simp only [cond_true, cond_false, List.append_nil, List.nil_append, List.cons_append]
            exact hA
        case o3 =>
          rintro gy D wz hDi hdep hclo ⟨hW, hX0, hX1⟩
          exact .inl ⟨rfl, rfl, .inl ⟨gy, wz, fun _ _ => rfl, by kernel_rfl, ⟨hW, hX0, hX1⟩⟩⟩
        case o4 =>
          rintro gy D wz hDi hdep hclo ⟨hW, hX0, hX1⟩
          have d2 : D 2 = true := hdep ⟨2, .data⟩ (by simp) rfl
          have d5 : D 5 = false := by
            cases h : D 5 with
            | false => rfl
            | true => exact absurd (hclo 5 _ rfl h ⟨4, .data⟩ (by simp) rfl) (by rw [hDi]; exact Bool.false_ne_true)
          have d6 : D 6 = false := by
            cases h : D 6 with
            | false => rfl
            | true => exact absurd (hclo 6 _ rfl h ⟨5, .data⟩ (by simp) rfl) (by rw [d5]; exact Bool.false_ne_true)
          have d9 : D 9 = false := by
            cases h : D 9 with
            | false => rfl
            | true => exact absurd (hclo 9 _ rfl h ⟨4, .chain⟩ (by simp) rfl) (by rw [hDi]; exact Bool.false_ne_true)
          have hW2 := hW
          try simp only [hDi, cond_true, cond_false, List.append_nil, List.nil_append, List.cons_append] at hW2
          refine .inl ⟨rfl, rfl, .inr (.inr ⟨17, #[.agg #[vI s, vI y, vI l, vI m], .slice gy.1 gy.2.2.1.length gy.2.1, .slice pl xl.length cl], by kernel_rfl, (Run_yes3 (Run3_any s y l m gy.1 gy.2.2.1 gy.2.1 pl xl cl _ (hX0 d2).2 (hX0 d2).1 hm0 (hL.inn.below (HP.below hW2)) (by have := hL.len; omega)) hr1).mono ?_⟩)⟩
          rintro e w3 ⟨pa, ca, S2, rfl, hXr, hIr, hbr⟩
          have hA := HP.call hW2 hbr
          refine ⟨⟨gy.1, gy.2.1, gy.2.2.1, pa, ca, S2, ()⟩, fun j hj => ?_, rfl, ⟨?_, fun h9 => ⟨(hX0 h9).1, (hX0 h9).2.below hbr⟩, fun _ => ⟨hXr, hIr⟩⟩⟩
          · match j, hj with
            | 0, hj => rfl
            | 1, hj => rfl
            | 2, hj => rfl
            | 3, hj => rfl
            | 4, hj => rw [hDi] at hj; cases hj
            | 5, hj => exact absurd hj (by rw [d5]; exact Bool.false_ne_true)
            | 6, hj => exact absurd hj (by rw [d6]; exact Bool.false_ne_true)
            | 7, hj => rfl
            | 8, hj => rfl
            | 9, hj => exact absurd hj (by rw [d9]; exact Bool.false_ne_true)
            | 10, hj => rfl
            | 11, hj => rfl
            | j + 12, _ => rfl
          · show HP Tr w w3 [.cel b4 #[vI s, vI y, vI l, vI m] 23]
            try simp only [cond_true, cond_false, List.append_nil, List.nil_append, List.cons_append]
            exact hA
        case o5 =>
          rintro gy D wz hDi hdep hclo ⟨hW, hX0, hX1⟩
          exact .inl ⟨rfl, rfl, .inl ⟨gy, wz, fun _ _ => rfl, by kernel_rfl, ⟨hW, hX0, hX1⟩⟩⟩
        case o6 =>
          rintro gy D wz hDi hdep hclo ⟨hW, hX0, hX1⟩
          exact .inl ⟨rfl, rfl, .inl ⟨gy, wz, fun _ _ => rfl, by kernel_rfl, ⟨hW, hX0, hX1⟩⟩⟩
        case o7 =>
          rintro gy D wz hDi hdep hclo ⟨hW, hX0, hX1⟩
          exact .inl ⟨rfl, rfl, .inl ⟨gy, wz, fun _ _ => rfl, by kernel_rfl, ⟨hW, hX0, hX1⟩⟩⟩
        case o8 =>
          rintro gy D wz hDi hdep hclo ⟨hW, hX0, hX1⟩
          exact .inl ⟨rfl, rfl, .inl ⟨gy, wz, fun _ _ => rfl, by kernel_rfl, ⟨hW, hX0, hX1⟩⟩⟩
        case o9 =>
          rintro gy D wz hDi hdep hclo ⟨hW, hX0, hX1⟩
          exact .inl ⟨rfl, rfl, .inl ⟨gy, wz, fun _ _ => rfl, by kernel_rfl, ⟨hW, hX0, hX1⟩⟩⟩
        case o10 =>
          rintro gy D wz hDi hdep hclo ⟨hW, hX0, hX1⟩
          exact .inl ⟨rfl, rfl, .inl ⟨gy, wz, fun _ _ => rfl, by kernel_rfl, ⟨hW, hX0, hX1⟩⟩⟩
        case o11 =>
          rintro gy D wz hDi hdep hclo ⟨hW, hX0, hX1⟩
          exact .inl ⟨rfl, rfl, .inl ⟨gy, wz, fun _ _ => rfl, by kernel_rfl, ⟨hW, hX0, hX1⟩⟩⟩
      rintro ⟨pt, ct, S1, pa, ca, S2, gu⟩ D w12 hall ⟨hH13, hX0, hX1⟩
      have hO1 := hX0 (hall 2 (by kernel_rfl))
      clear hX0
      have hO2 := hX1 (hall 4 (by kernel_rfl))
      clear hX1
      clear hall
      refine WQ.sub (l' := [(0, .agg #[vI s, vI y, vI l, vI m]), (1, .slice p S.length cp), (2, .slice pl xl.length cl), (3, .slice pk xk.length ck), (4, vP b4 0), (8, .bool false), (9, .slice pa S2.length ca), (10, vI ((runX s y l xl (stX S, 0)).2 : Int)), (11, vI 0), (27, .bool false)]) ⟨rfl, rfl, rfl, rfl, rfl, rfl, rfl, rfl, rfl, rfl, trivial⟩ ?_
      obtain ⟨hX1, hI1⟩ := hO1
      obtain ⟨hX2, hI2⟩ := hO2
      have hbw1 := HP.below hH13
      have hbox1 : ∀ i9, i9 < 1 → World.rangeAt w12 b4 i9 [vI s, vI y, vI l, vI m] := fun i9 h9 => match i9, h9 with | 0, _ => HP.range hH13 0 rfl rfl | n + 1, h9 => absurd h9 (by omega)
      replace hS := hS.below hbw1
      replace hL := hL.below hbw1
      replace hK := hK.below hbw1
      have hBk1 := HP.call (HP.refl (S := Tr) w) hbw1
      have hH14 : HP Tr w12 w12 [] := HP.refl w12
      refine WQ.then ?_
      refine hK11 _ _ _ ?_
      refine WC.seq fun K15 hK15 => ?_
      refine WC.region ?_
      refine WL.pure (v := .agg #[vI s, vI y, vI l, vI m]) 39 rfl (Nat.le_of_ble_eq_true rfl) rfl rfl (x_loadS (cs := [vI s, vI y, vI l, vI m]) rfl rfl Try.underlying23 rfl sz23 (HP.oldRange hH14 trivial (hbox1 0 (by omega)))) ?_
      refine WL.pure (v := .slice p S.length cp) 40 rfl (Nat.le_of_ble_eq_true rfl) rfl rfl (by kernel_rfl) ?_
      refine WL.pure (v := .slice pl xl.length cl) 41 rfl (Nat.le_of_ble_eq_true rfl) rfl rfl (by kernel_rfl) ?_
      refine WL.call (f := 18) (args := #[.agg #[vI s, vI y, vI l, vI m], .slice p S.length cp, .slice pl xl.length cl]) 42 rfl (Nat.le_of_ble_eq_true rfl) rfl rfl (by kernel_rfl) ?_
      refine (Run_yes3 (rRun3_any s y l m p S cp pl xl cl _ (hS.below (HP.below hH14)) rfl ((hL.below (HP.below hH14))).inn (by have := hL.len; omega)) hr1).mono ?_
      rintro e wb ⟨pb, cb, S3, rfl, hX3, hI3, hb⟩
      refine ⟨_, rfl, ?_⟩
      have hH16 : HP Tr w12 _ [] := HP.call hH14 hb
      have hbw2 := HP.below hH16
      have hbox2 : ∀ i9, i9 < 1 → World.rangeAt wb b4 i9 [vI s, vI y, vI l, vI m] := fun i9 h9 => HP.oldRange hH16 trivial (hbox1 i9 h9)
      replace hS := hS.below hbw2
      replace hL := hL.below hbw2
      replace hK := hK.below hbw2
      replace hI1 := hI1.below hbw2
      replace hI2 := hI2.below hbw2
      have hBk2 := HP.call hBk1 hbw2
      have hH17 : HP Tr wb wb [] := HP.refl wb
      refine WL.pure (v := .tuple #[.slice pb S3.length cb, vI ((runX s y l xl (stX S, 0)).2 : Int), vI 0]) 38 rfl (Nat.le_of_ble_eq_true rfl) rfl rfl (by kernel_rfl) ?_
      refine WL.pure (v := .slice pb S3.length cb) 43 rfl (Nat.le_of_ble_eq_true rfl) rfl rfl (by kernel_rfl) ?_
      refine WL.pure (v := vI ((runX s y l xl (stX S, 0)).2 : Int)) 44 rfl (Nat.le_of_ble_eq_true rfl) rfl rfl (by kernel_rfl) ?_
      refine WL.pure (v := vI 0) 45 rfl (Nat.le_of_ble_eq_true rfl) rfl rfl (by kernel_rfl) ?_
      refine WL.pure (v := .slice pb S3.length cb) 12 rfl (Nat.le_of_ble_eq_true rfl) rfl rfl (by kernel_rfl) ?_
      refine WL.pure (v := vI ((runX s y l xl (stX S, 0)).2 : Int)) 13 rfl (Nat.le_of_ble_eq_true rfl) rfl rfl (by kernel_rfl) ?_
      refine WL.pure (v := vI 0) 14 rfl (Nat.le_of_ble_eq_true rfl) rfl rfl (by kernel_rfl) ?_
      refine WL.nil ?_
      refine WQ.then ?_
      refine hK15 _ _ _ ?_
      refine WC.sub (l' := [(0, .agg #[vI s, vI y, vI l, vI m]), (1, .slice p S.length cp), (2, .slice pl xl.length cl), (3, .slice pk xk.length ck), (4, vP b4 0), (8, .bool false), (9, .slice pa S2.length ca), (10, vI ((runX s y l xl (stX S, 0)).2 : Int)), (11, vI 0), (12, .slice pb S3.length cb), (13, vI ((runX s y l xl (stX S, 0)).2 : Int)), (14, vI 0), (27, .bool false)]) ⟨rfl, rfl, rfl, rfl, rfl, rfl, rfl, rfl, rfl, rfl, rfl, rfl, rfl, trivial⟩ ?_
      refine WC.seq fun K18 hK18 => ?_
      refine WC.seq fun K19 hK19 => ?_
      refine WC.region ?_
      refine WL.pure (v := vI 0) 46 rfl (Nat.le_of_ble_eq_true rfl) rfl rfl (by kernel_rfl) ?_
      refine WL.pure (v := vI 0) 47 rfl (Nat.le_of_ble_eq_true rfl) rfl rfl (by kernel_rfl) ?_
      refine WL.pure (v := .bool false) 48 rfl (Nat.le_of_ble_eq_true rfl) rfl rfl (x_neq rfl rfl rfl (by decide)) ?_
      refine WL.pure (v := .bool false) 49 rfl (Nat.le_of_ble_eq_true rfl) rfl rfl (by kernel_rfl) ?_
      refine WL.pure (v := vI ((runX s y l xl (stX S, 0)).2 : Int)) 50 rfl (Nat.le_of_ble_eq_true rfl) rfl rfl (by kernel_rfl) ?_
      refine WL.pure (v := vI ((runX s y l xl (stX S, 0)).2 : Int)) 51 rfl (Nat.le_of_ble_eq_true rfl) rfl rfl (by kernel_rfl) ?_
      refine WL.pure (v := .bool false) 52 rfl (Nat.le_of_ble_eq_true rfl) rfl rfl (x_neq rfl rfl rfl (dF (fun h => h rfl))) ?_
      refine WL.pure (v := .bool false) 53 rfl (Nat.le_of_ble_eq_true rfl) rfl rfl (by kernel_rfl) ?_
      refine WL.pure (v := .bool false) 54 rfl (Nat.le_of_ble_eq_true rfl) rfl rfl (by kernel_rfl) ?_
      refine WL.pure (v := .slice pa S2.length ca) 55 rfl (Nat.le_of_ble_eq_true rfl) rfl rfl (by kernel_rfl) ?_
      refine WL.pure (v := .slice pb S3.length cb) 56 rfl (Nat.le_of_ble_eq_true rfl) rfl rfl (by kernel_rfl) ?_
      refine WL.call (f := 14) (args := #[.slice pa S2.length ca, .slice pb S3.length cb]) 57 rfl (Nat.le_of_ble_eq_true rfl) rfl rfl (by kernel_rfl) ?_
      refine (same3_any pa pb S2 S3 ca cb _ (hI2.below (HP.below hH17)) (hI3.below (HP.below hH17)) hX2 hX3 (smX_run hr1)).mono ?_
      rintro e w20 ⟨rfl, hb21⟩
      refine ⟨_, rfl, ?_⟩
      have hH22 : HP Tr wb _ [] := HP.call hH17 hb21
      refine WL.pure (v := .bool false) 58 rfl (Nat.le_of_ble_eq_true rfl) rfl rfl (by kernel_rfl) ?_
      refine WL.pure (v := .bool false) 59 rfl (Nat.le_of_ble_eq_true rfl) rfl rfl (by kernel_rfl) ?_
      refine WL.nil ?_
      refine WQ.then ?_
      refine hK19 _ _ _ ?_
      refine WC.sub (l' := [(0, .agg #[vI s, vI y, vI l, vI m]), (1, .slice p S.length cp), (2, .slice pl xl.length cl), (3, .slice pk xk.length ck), (4, vP b4 0), (8, .bool false), (9, .slice pa S2.length ca), (10, vI ((runX s y l xl (stX S, 0)).2 : Int)), (11, vI 0), (12, .slice pb S3.length cb), (13, vI ((runX s y l xl (stX S, 0)).2 : Int)), (14, vI 0), (27, .bool false), (59, .bool false)]) ⟨rfl, rfl, rfl, rfl, rfl, rfl, rfl, rfl, rfl, rfl, rfl, rfl, rfl, rfl, trivial⟩ ?_
      refine WC.no rfl ?_
      refine WC.skip ?_
      refine WQ.then ?_
      refine hK18 _ _ _ ?_
      refine WC.seq fun K23 hK23 => ?_
      refine WC.region ?_
      refine WL.pure (v := .slice pl xl.length cl) 60 rfl (Nat.le_of_ble_eq_true rfl) rfl rfl (by kernel_rfl) ?_
      have hH24 : HP Tr wb _ [.own (.slice none 0 0) 0 [] 3 1] := HP.ownNil hH22 3 1
      obtain ⟨j0, hj0, jz0, jz1, jz2⟩ := infoI
      refine WL.appendSrc (iR xl) 0 hH24 61 rfl (by decide) rfl rfl rfl rfl Try.underlying33 hj0 jz0 jz1 jz2 rfl (by decide) rfl (src_of ((hL.below (HP.below hH24))).inn (by rw [List.take_length]) (by have q9 := (hL.below (HP.below hH24)); exact q9.nil)) (by simp) (fun u hu => by obtain ⟨x9, _, rfl⟩ := List.mem_map.1 hu; rfl) (by unfold maxLen; omega) (by omega) ?_
      rintro v7 w7 - hA7
      obtain ⟨pv7, cp7, rfl⟩ := own_row (HP.get hA7 0 rfl)
      rw [Nat.zero_add, List.nil_append] at hA7
      rw [show 0 + xl.length = xl.length from Nat.zero_add _]
      have hH25 : HP Tr wb _ [rowI' pv7 cp7 xl] := hA7
      refine WL.pure (v := .slice pk xk.length ck) 62 rfl (Nat.le_of_ble_eq_true rfl) rfl rfl (by kernel_rfl) ?_
      refine WL.appendSrc (iR xk) 0 hH25 63 rfl (by decide) rfl rfl rfl rfl Try.underlying33 hj0 jz0 jz1 jz2 rfl (by decide) rfl (src_of ((hK.below (HP.below hH25))).inn (by rw [List.take_length]) (by have q9 := (hK.below (HP.below hH25)); exact q9.nil)) (by simp) (fun u hu => by obtain ⟨x9, _, rfl⟩ := List.mem_map.1 hu; rfl) (by unfold maxLen; omega) (by omega) ?_
      rintro v8 w8 - hA8
      obtain ⟨pz, cz, rfl⟩ := own_row (HP.get hA8 0 rfl)
      rw [show xl.length + xk.length = (xl ++ xk).length from (List.length_append ..).symm, show iR xl ++ iR xk = iR (xl ++ xk) from (List.map_append ..).symm] at hA8
      rw [show xl.length + xk.length = (xl ++ xk).length from (List.length_append ..).symm]
      have hH26 : HP Tr wb _ [rowI' pz cz (xl ++ xk)] := hA8
      have hZ : InI w8 pz (xl ++ xk) := row_in (HP.get hH26 0 rfl)
      have hbw3 := HP.below hH26
      have hbox3 : ∀ i9, i9 < 1 → World.rangeAt w8 b4 i9 [vI s, vI y, vI l, vI m] := fun i9 h9 => HP.oldRange hH26 trivial (hbox2 i9 h9)
      replace hS := hS.below hbw3
      replace hL := hL.below hbw3
      replace hK := hK.below hbw3
      replace hI1 := hI1.below hbw3
      replace hI2 := hI2.below hbw3
      replace hI3 := hI3.below hbw3
      have hBk3 := HP.call hBk2 hbw3
      have hH27 : HP Tr w8 w8 [] := HP.refl w8
      refine WL.pure (v := .slice pz ((xl ++ xk).length) cz) 15 rfl (Nat.le_of_ble_eq_true rfl) rfl rfl (by kernel_rfl) ?_
      refine WL.nil ?_
      refine WQ.then ?_
      refine hK23 _ _ _ ?_
      refine WC.seq fun K28 hK28 => ?_
      rcases Bool.eq_false_or_eq_true (runOk s y l m (stX S) (xl ++ xk)) with hr2 | hr2
      ·
        refine WC.confG (γ := Option Addr × Nat × List SlI × Option Addr × Nat × List SlI × Unit) [(15, .slice pz ((xl ++ xk).length) cz), (63, .slice pz ((xl ++ xk).length) cz), (62, .slice pk xk.length ck), (61, .slice pv7 xl.length cp7), (60, .slice pl xl.length cl), (0, .agg #[vI s, vI y, vI l, vI m]), (1, .slice p S.length cp), (2, .slice pl xl.length cl), (3, .slice pk xk.length ck), (4, vP b4 0), (8, .bool false), (9, .slice pa S2.length ca), (10, vI ((runX s y l xl (stX S, 0)).2 : Int)), (11, vI 0), (12, .slice pb S3.length cb), (13, vI ((runX s y l xl (stX S, 0)).2 : Int)), (14, vI 0), (27, .bool false), (59, .bool false)] (fun gy => [.agg #[vI s, vI y, vI l, vI m], .slice p S.length cp, .slice gy.1 gy.2.2.1.length gy.2.1, .slice pz ((xl ++ xk).length) cz, .tuple #[.slice gy.2.2.2.1 gy.2.2.2.2.2.1.length gy.2.2.2.2.1, vI ((runX s y l (xl ++ xk) (stX S, 0)).2 : Int), vI 0], .tuple #[.slice gy.2.2.2.1 gy.2.2.2.2.2.1.length gy.2.2.2.2.1, vI ((runX s y l (xl ++ xk) (stX S, 0)).2 : Int), vI 0], .slice gy.2.2.2.1 gy.2.2.2.2.2.1.length gy.2.2.2.2.1, vI ((runX s y l (xl ++ xk) (stX S, 0)).2 : Int), vI 0, .slice gy.2.2.2.1 gy.2.2.2.2.2.1.length gy.2.2.2.2.1, vI ((runX s y l (xl ++ xk) (stX S, 0)).2 : Int), vI 0]) (fun gy D wz => HP Tr w8 wz [] ∧ (D 2 = true → (stX gy.2.2.1 = stX S ∧ InS2 wz gy.1 gy.2.2.1)) ∧ (D 4 = true → (stX gy.2.2.2.2.2.1 = (runX s y l (xl ++ xk) (stX S, 0)).1 ∧ InS2 wz gy.2.2.2.1 gy.2.2.2.2.2.1))) (none, 0, [], none, 0, [], ()) (by kernel_rfl) ⟨rfl, rfl, rfl, rfl, rfl, rfl, rfl, rfl, rfl, rfl, rfl, rfl, rfl, rfl, rfl, rfl, rfl, rfl, rfl, trivial⟩ (by kernel_rfl) (by kernel_rfl) (by kernel_rfl) (fun _ => rfl) (by kernel_rfl) (⟨HP.drew hH27, (fun h => by cases h), (fun h => by cases h)⟩) ?_ ?_
        · refine AllOk.cons ?o0 (AllOk.cons ?o1 (AllOk.cons ?o2 (AllOk.cons ?o3 (AllOk.cons ?o4 (AllOk.cons ?o5 (AllOk.cons ?o6 (AllOk.cons ?o7 (AllOk.cons ?o8 (AllOk.cons ?o9 (AllOk.cons ?o10 (AllOk.cons ?o11 (AllOk.nil _))))))))))))
          case o0 =>
            rintro gy D wz hDi hdep hclo ⟨hW, hX0, hX1⟩
            exact .inl ⟨rfl, rfl, .inl ⟨gy, wz, fun _ _ => rfl, x_loadS (cs := [vI s, vI y, vI l, vI m]) rfl rfl Try.underlying23 rfl sz23 (HP.oldRange hW trivial (hbox3 0 (by omega))), ⟨hW, hX0, hX1⟩⟩⟩
          case o1 =>
            rintro gy D wz hDi hdep hclo ⟨hW, hX0, hX1⟩
            exact .inl ⟨rfl, rfl, .inl ⟨gy, wz, fun _ _ => rfl, by kernel_rfl, ⟨hW, hX0, hX1⟩⟩⟩
          case o2 =>
            rintro gy D wz hDi hdep hclo ⟨hW, hX0, hX1⟩
            have hW2 := hW
            try simp only [hDi, cond_true, cond_false, List.append_nil, List.nil_append, List.cons_append] at hW2
            refine .inl ⟨rfl, rfl, .inr (.inr ⟨11, #[.slice p S.length cp], by kernel_rfl, (own3_any p S cp _ (hS.below (HP.below hW2))).mono ?_⟩)⟩
            rintro e w3 ⟨pu, cu, S6, rfl, hXo, hIo, hbo⟩
            have hA := HP.call hW2 hbo
            refine ⟨⟨pu, cu, S6, gy.2.2.2.1, gy.2.2.2.2.1, gy.2.2.2.2.2.1, ()⟩, fun j hj => ?_, rfl, ⟨?_, fun _ => ⟨hXo, hIo⟩, fun h9 => ⟨(hX1 h9).1, (hX1 h9).2.below hbo⟩⟩⟩
            · match j, hj with
              | 0, hj => rfl
              | 1, hj => rfl
              | 2, hj => rw [hDi] at hj; cases hj
              | 3, hj => rfl
              | 4, hj => rfl
              | 5, hj => rfl
              | 6, hj => rfl
              | 7, hj => rfl
              | 8, hj => rfl
              | 9, hj => rfl
              | 10, hj => rfl
              | 11, hj => rfl
              | j + 12, _ => rfl
            · show HP Tr w8 w3 []
              try simp only [cond_true, cond_false, List.append_nil, List.nil_append, List.cons_append]
              exact hA
          case o3 =>
            rintro gy D wz hDi hdep hclo ⟨hW, hX0, hX1⟩
            exact .inl ⟨rfl, rfl, .inl ⟨gy, wz, fun _ _ => rfl, by kernel_rfl, ⟨hW, hX0, hX1⟩⟩⟩
          case o4 =>
            rintro gy D wz hDi hdep hclo ⟨hW, hX0, hX1⟩
            have d2 : D 2 = true := hdep ⟨2, .data⟩ (by simp) rfl
            have d5 : D 5 = false := by
              cases h : D 5 with
              | false => rfl
              | true => exact absurd (hclo 5 _ rfl h ⟨4, .data⟩ (by simp) rfl) (by rw [hDi]; exact Bool.false_ne_true)
            have d6 : D 6 = false := by
              cases h : D 6 with
              | false => rfl
              | true => exact absurd (hclo 6 _ rfl h ⟨5, .data⟩ (by simp) rfl) (by rw [d5]; exact Bool.false_ne_true)
            have d9 : D 9 = false := by
              cases h : D 9 with
              | false => rfl
              | true => exact absurd (hclo 9 _ rfl h ⟨4, .chain⟩ (by simp) rfl) (by rw [hDi]; exact Bool.false_ne_true)
            have hW2 := hW
            try simp only [hDi, cond_true, cond_false, List.append_nil, List.nil_append, List.cons_append] at hW2
            refine .inl ⟨rfl, rfl, .inr (.inr ⟨17, #[.agg #[vI s, vI y, vI l, vI m], .slice gy.1 gy.2.2.1.length gy.2.1, .slice pz ((xl ++ xk).length) cz], by kernel_rfl, (Run_yes3 (Run3_any s y l m gy.1 gy.2.2.1 gy.2.1 pz (xl ++ xk) cz _ (hX0 d2).2 (hX0 d2).1 hm0 (hZ.below (HP.below hW2)) (by simp only [List.length_append]; omega)) hr2).mono ?_⟩)⟩
            rintro e w3 ⟨pc, cc, S4, rfl, hXr, hIr, hbr⟩
            have hA := HP.call hW2 hbr
            refine ⟨⟨gy.1, gy.2.1, gy.2.2.1, pc, cc, S4, ()⟩, fun j hj => ?_, rfl, ⟨?_, fun h9 => ⟨(hX0 h9).1, (hX0 h9).2.below hbr⟩, fun _ => ⟨hXr, hIr⟩⟩⟩
            · match j, hj with
              | 0, hj => rfl
              | 1, hj => rfl
              | 2, hj => rfl
              | 3, hj => rfl
              | 4, hj => rw [hDi] at hj; cases hj
              | 5, hj => exact absurd hj (by rw [d5]; exact Bool.false_ne_true)
              | 6, hj => exact absurd hj (by rw [d6]; exact Bool.false_ne_true)
              | 7, hj => rfl
              | 8, hj => rfl
              | 9, hj => exact absurd hj (by rw [d9]; exact Bool.false_ne_true)
              | 10, hj => rfl
              | 11, hj => rfl
              | j + 12, _ => rfl
            · show HP Tr w8 w3 []
              try simp only [cond_true, cond_false, List.append_nil, List.nil_append, List.cons_append]
              exact hA
          case o5 =>
            rintro gy D wz hDi hdep hclo ⟨hW, hX0, hX1⟩
            exact .inl ⟨rfl, rfl, .inl ⟨gy, wz, fun _ _ => rfl, by kernel_rfl, ⟨hW, hX0, hX1⟩⟩⟩
          case o6 =>
            rintro gy D wz hDi hdep hclo ⟨hW, hX0, hX1⟩
            exact .inl ⟨rfl, rfl, .inl ⟨gy, wz, fun _ _ => rfl, by kernel_rfl, ⟨hW, hX0, hX1⟩⟩⟩
          case o7 =>
            rintro gy D wz hDi hdep hclo ⟨hW, hX0, hX1⟩
            exact .inl ⟨rfl, rfl, .inl ⟨gy, wz, fun _ _ => rfl, by kernel_rfl, ⟨hW, hX0, hX1⟩⟩⟩
          case o8 =>
            rintro gy D wz hDi hdep hclo ⟨hW, hX0, hX1⟩
            exact .inl ⟨rfl, rfl, .inl ⟨gy, wz, fun _ _ => rfl, by kernel_rfl, ⟨hW, hX0, hX1⟩⟩⟩
          case o9 =>
            rintro gy D wz hDi hdep hclo ⟨hW, hX0, hX1⟩
            exact .inl ⟨rfl, rfl, .inl ⟨gy, wz, fun _ _ => rfl, by kernel_rfl, ⟨hW, hX0, hX1⟩⟩⟩
          case o10 =>
            rintro gy D wz hDi hdep hclo ⟨hW, hX0, hX1⟩
            exact .inl ⟨rfl, rfl, .inl ⟨gy, wz, fun _ _ => rfl, by kernel_rfl, ⟨hW, hX0, hX1⟩⟩⟩
          case o11 =>
            rintro gy D wz hDi hdep hclo ⟨hW, hX0, hX1⟩
            exact .inl ⟨rfl, rfl, .inl ⟨gy, wz, fun _ _ => rfl, by kernel_rfl, ⟨hW, hX0, hX1⟩⟩⟩
        rintro ⟨pu, cu, S6, pc, cc, S4, gu⟩ D w29 hall ⟨hH30, hX0, hX1⟩
        have hO3 := hX0 (hall 2 (by kernel_rfl))
        clear hX0
        have hO4 := hX1 (hall 4 (by kernel_rfl))
        clear hX1
        clear hall
        refine WQ.sub (l' := [(0, .agg #[vI s, vI y, vI l, vI m]), (1, .slice p S.length cp), (2, .slice pl xl.length cl), (3, .slice pk xk.length ck), (4, vP b4 0), (8, .bool false), (9, .slice pa S2.length ca), (10, vI ((runX s y l xl (stX S, 0)).2 : Int)), (11, vI 0), (12, .slice pb S3.length cb), (13, vI ((runX s y l xl (stX S, 0)).2 : Int)), (14, vI 0), (15, .slice pz ((xl ++ xk).length) cz), (16, .slice pc S4.length cc), (17, vI ((runX s y l (xl ++ xk) (stX S, 0)).2 : Int)), (18, vI 0), (27, .bool false), (59, .bool false)]) ⟨rfl, rfl, rfl, rfl, rfl, rfl, rfl, rfl, rfl, rfl, rfl, rfl, rfl, rfl, rfl, rfl, rfl, rfl, trivial⟩ ?_
        obtain ⟨hX4, hI4⟩ := hO4
        have hbw4 := HP.below hH30
        have hbox4 : ∀ i9, i9 < 1 → World.rangeAt w29 b4 i9 [vI s, vI y, vI l, vI m] := fun i9 h9 => HP.oldRange hH30 trivial (hbox3 i9 h9)
        replace hS := hS.below hbw4
        replace hL := hL.below hbw4
        replace hK := hK.below hbw4
        replace hI1 := hI1.below hbw4
        replace hI2 := hI2.below hbw4
        replace hI3 := hI3.below hbw4
        replace hZ := hZ.below hbw4
        have hBk4 := HP.call hBk3 hbw4
        have hH31 : HP Tr w29 w29 [] := HP.refl w29
        refine WQ.then ?_
        refine hK28 _ _ _ ?_
        refine WC.seq fun K32 hK32 => ?_
        refine WC.seq fun K33 hK33 => ?_
        refine WC.region ?_
        refine WL.pure (v := vI 0) 73 rfl (Nat.le_of_ble_eq_true rfl) rfl rfl (by kernel_rfl) ?_
        refine WL.pure (v := .bool true) 74 rfl (Nat.le_of_ble_eq_true rfl) rfl rfl (x_eql rfl rfl rfl (by decide)) ?_
        refine WL.pure (v := .bool true) 75 rfl (Nat.le_of_ble_eq_true rfl) rfl rfl (by kernel_rfl) ?_
        refine WL.pure (v := vI 0) 76 rfl (Nat.le_of_ble_eq_true rfl) rfl rfl (by kernel_rfl) ?_
        refine WL.pure (v := .bool true) 77 rfl (Nat.le_of_ble_eq_true rfl) rfl rfl (x_eql rfl rfl rfl (by decide)) ?_
        refine WL.pure (v := .bool true) 78 rfl (Nat.le_of_ble_eq_true rfl) rfl rfl (by kernel_rfl) ?_
        refine WL.nil ?_
        refine WQ.then ?_
        refine hK33 _ _ _ ?_
        refine WC.yes rfl ?_
        refine WC.seq fun K34 hK34 => ?_
        refine WC.region ?_
        refine WL.pure (v := .agg #[vI s, vI y, vI l, vI m]) 80 rfl (Nat.le_of_ble_eq_true rfl) rfl rfl (x_loadS (cs := [vI s, vI y, vI l, vI m]) rfl rfl Try.underlying23 rfl sz23 (HP.oldRange hH31 trivial (hbox4 0 (by omega)))) ?_
        refine WL.pure (v := .slice pa S2.length ca) 81 rfl (Nat.le_of_ble_eq_true rfl) rfl rfl (by kernel_rfl) ?_
        refine WL.pure (v := .slice pk xk.length ck) 82 rfl (Nat.le_of_ble_eq_true rfl) rfl rfl (by kernel_rfl) ?_
        refine WL.call (f := 17) (args := #[.agg #[vI s, vI y, vI l, vI m], .slice pa S2.length ca, .slice pk xk.length ck]) 83 rfl (Nat.le_of_ble_eq_true rfl) rfl rfl (by kernel_rfl) ?_
        refine (Run_yes3 (Run3_any s y l m pa S2 ca pk xk ck _ (hI2.below (HP.below hH31)) hX2 (smX_run hr1) ((hK.below (HP.below hH31))).inn (by have := hK.len; omega)) (runOk_app hr1 hr2)).mono ?_
        rintro e wd ⟨pd, cd, S5, rfl, hX5, hI5, hb⟩
        refine ⟨_, rfl, ?_⟩
        have hH35 : HP Tr w29 _ [] := HP.call hH31 hb
        have hbw5 := HP.below hH35
        have hbox5 : ∀ i9, i9 < 1 → World.rangeAt wd b4 i9 [vI s, vI y, vI l, vI m] := fun i9 h9 => HP.oldRange hH35 trivial (hbox4 i9 h9)
        replace hS := hS.below hbw5
        replace hL := hL.below hbw5
        replace hK := hK.below hbw5
        replace hI1 := hI1.below hbw5
        replace hI2 := hI2.below hbw5
        replace hI3 := hI3.below hbw5
        replace hZ := hZ.below hbw5
        replace hI4 := hI4.below hbw5
        have hBk5 := HP.call hBk4 hbw5
        have hH36 : HP Tr wd wd [] := HP.refl wd
        have hX5b : stX S5 = (runX s y l (xl ++ xk) (stX S, 0)).1 := hX5.trans (run_app1 s y l xl xk _).symm
        have hsum := run_app2 s y l xl xk (stX S)
        have hle1 := run_len (s := s) (y := y) (l := l) xl (stX S)
        have hle2 := run_len (s := s) (y := y) (l := l) xk (runX s y l xl (stX S, 0)).1
        refine WL.pure (v := .tuple #[.slice pd S5.length cd, vI ((runX s y l xk ((runX s y l xl (stX S, 0)).1, 0)).2 : Int), vI 0]) 79 rfl (Nat.le_of_ble_eq_true rfl) rfl rfl (by kernel_rfl) ?_
        refine WL.pure (v := .slice pd S5.length cd) 84 rfl (Nat.le_of_ble_eq_true rfl) rfl rfl (by kernel_rfl) ?_
        refine WL.pure (v := vI ((runX s y l xk ((runX s y l xl (stX S, 0)).1, 0)).2 : Int)) 85 rfl (Nat.le_of_ble_eq_true rfl) rfl rfl (by kernel_rfl) ?_
        refine WL.pure (v := vI 0) 86 rfl (Nat.le_of_ble_eq_true rfl) rfl rfl (by kernel_rfl) ?_
        refine WL.pure (v := .slice pd S5.length cd) 19 rfl (Nat.le_of_ble_eq_true rfl) rfl rfl (by kernel_rfl) ?_
        refine WL.pure (v := vI ((runX s y l xk ((runX s y l xl (stX S, 0)).1, 0)).2 : Int)) 20 rfl (Nat.le_of_ble_eq_true rfl) rfl rfl (by kernel_rfl) ?_
        refine WL.pure (v := vI 0) 21 rfl (Nat.le_of_ble_eq_true rfl) rfl rfl (by kernel_rfl) ?_
        refine WL.nil ?_
        refine WQ.then ?_
        refine hK34 _ _ _ ?_
        refine WC.sub (l' := [(0, .agg #[vI s, vI y, vI l, vI m]), (1, .slice p S.length cp), (2, .slice pl xl.length cl), (3, .slice pk xk.length ck), (4, vP b4 0), (8, .bool false), (9, .slice pa S2.length ca), (10, vI ((runX s y l xl (stX S, 0)).2 : Int)), (11, vI 0), (12, .slice pb S3.length cb), (13, vI ((runX s y l xl (stX S, 0)).2 : Int)), (14, vI 0), (15, .slice pz ((xl ++ xk).length) cz), (16, .slice pc S4.length cc), (17, vI ((runX s y l (xl ++ xk) (stX S, 0)).2 : Int)), (18, vI 0), (19, .slice pd S5.length cd), (20, vI ((runX s y l xk ((runX s y l xl (stX S, 0)).1, 0)).2 : Int)), (21, vI 0), (27, .bool false), (59, .bool false), (78, .bool true)]) ⟨rfl, rfl, rfl, rfl, rfl, rfl, rfl, rfl, rfl, rfl, rfl, rfl, rfl, rfl, rfl, rfl, rfl, rfl, rfl, rfl, rfl, rfl, trivial⟩ ?_
        refine WC.seq fun K37 hK37 => ?_
        refine WC.region ?_
        refine WL.pure (v := vI 0) 87 rfl (Nat.le_of_ble_eq_true rfl) rfl rfl (by kernel_rfl) ?_
        refine WL.pure (v := .bool false) 88 rfl (Nat.le_of_ble_eq_true rfl) rfl rfl (x_neq rfl rfl rfl (by decide)) ?_
        refine WL.pure (v := .bool false) 89 rfl (Nat.le_of_ble_eq_true rfl) rfl rfl (by kernel_rfl) ?_
        refine WL.pure (v := .slice pc S4.length cc) 90 rfl (Nat.le_of_ble_eq_true rfl) rfl rfl (by kernel_rfl) ?_
        refine WL.pure (v := .slice pd S5.length cd) 91 rfl (Nat.le_of_ble_eq_true rfl) rfl rfl (by kernel_rfl) ?_
        refine WL.call (f := 14) (args := #[.slice pc S4.length cc, .slice pd S5.length cd]) 92 rfl (Nat.le_of_ble_eq_true rfl) rfl rfl (by kernel_rfl) ?_
        refine (same3_any pc pd S4 S5 cc cd _ (hI4.below (HP.below hH36)) (hI5.below (HP.below hH36)) hX4 hX5b (smX_run hr2)).mono ?_
        rintro e w38 ⟨rfl, hb39⟩
        refine ⟨_, rfl, ?_⟩
        have hH40 : HP Tr wd _ [] := HP.call hH36 hb39
        refine WL.pure (v := .bool false) 93 rfl (Nat.le_of_ble_eq_true rfl) rfl rfl (by kernel_rfl) ?_
        refine WL.pure (v := .bool false) 94 rfl (Nat.le_of_ble_eq_true rfl) rfl rfl (by kernel_rfl) ?_
        refine WL.pure (v := .bool false) 95 rfl (Nat.le_of_ble_eq_true rfl) rfl rfl (by kernel_rfl) ?_
        refine WL.pure (v := vI ((runX s y l (xl ++ xk) (stX S, 0)).2 : Int)) 96 rfl (Nat.le_of_ble_eq_true rfl) rfl rfl (by kernel_rfl) ?_
        refine WL.pure (v := vI ((runX s y l xl (stX S, 0)).2 : Int)) 97 rfl (Nat.le_of_ble_eq_true rfl) rfl rfl (by kernel_rfl) ?_
        refine WL.pure (v := vI ((runX s y l xk ((runX s y l xl (stX S, 0)).1, 0)).2 : Int)) 98 rfl (Nat.le_of_ble_eq_true rfl) rfl rfl (by kernel_rfl) ?_
        refine WL.pure (v := vI (((runX s y l xl (stX S, 0)).2 : Int) + ((runX s y l xk ((runX s y l xl (stX S, 0)).1, 0)).2 : Int))) 99 rfl (Nat.le_of_ble_eq_true rfl) rfl rfl (x_add (Z := ((runX s y l xl (stX S, 0)).2 : Int) + ((runX s y l xk ((runX s y l xl (stX S, 0)).1, 0)).2 : Int)) rfl rfl rfl (by omega) (by omega) (by omega)) ?_
        refine WL.pure (v := .bool false) 100 rfl (Nat.le_of_ble_eq_true rfl) rfl rfl (x_neq rfl rfl rfl (dF (fun h => h (by omega)))) ?_
        refine WL.pure (v := .bool false) 101 rfl (Nat.le_of_ble_eq_true rfl) rfl rfl (by kernel_rfl) ?_
        refine WL.nil ?_
        refine WQ.then ?_
        refine hK37 _ _ _ ?_
        refine WC.sub (l' := [(0, .agg #[vI s, vI y, vI l, vI m]), (1, .slice p S.length cp), (2, .slice pl xl.length cl), (3, .slice pk xk.length ck), (4, vP b4 0), (8, .bool false), (9, .slice pa S2.length ca), (10, vI ((runX s y l xl (stX S, 0)).2 : Int)), (11, vI 0), (12, .slice pb S3.length cb), (13, vI ((runX s y l xl (stX S, 0)).2 : Int)), (14, vI 0), (15, .slice pz ((xl ++ xk).length) cz), (16, .slice pc S4.length cc), (17, vI ((runX s y l (xl ++ xk) (stX S, 0)).2 : Int)), (18, vI 0), (19, .slice pd S5.length cd), (20, vI ((runX s y l xk ((runX s y l xl (stX S, 0)).1, 0)).2 : Int)), (21, vI 0), (27, .bool false), (59, .bool false), (78, .bool true), (101, .bool false)]) ⟨rfl, rfl, rfl, rfl, rfl, rfl, rfl, rfl, rfl, rfl, rfl, rfl, rfl, rfl, rfl, rfl, rfl, rfl, rfl, rfl, rfl, rfl, rfl, trivial⟩ ?_
        refine WC.no rfl ?_
        refine WC.skip ?_
        refine WQ.then ?_
        refine hK32 _ _ _ ?_
        refine WC.seq fun K41 hK41 => ?_
        refine WC.region ?_
        refine WL.call (f := 16) (args := #[]) 102 rfl (Nat.le_of_ble_eq_true rfl) rfl rfl (by kernel_rfl) ?_
        refine (sane_any _).mono ?_
        rintro e w42 ⟨rfl, hb43⟩
        refine ⟨_, rfl, ?_⟩
        have hH44 : HP Tr wd _ [] := HP.call hH40 hb43
        refine WL.pure (v := .bool true) 8 rfl (Nat.le_of_ble_eq_true rfl) rfl rfl (by kernel_rfl) ?_
        refine WL.nil ?_
        refine WQ.then ?_
        refine hK41 _ _ _ ?_
        refine WC.ret ?_
        refine WQ.ret1 8 rfl rfl ?_
        exact ⟨rfl, HP.below (HP.call hBk5 (HP.below hH44))⟩
      ·
        refine WC.confG (γ := Option Addr × Nat × List SlI × Unit) [(15, .slice pz ((xl ++ xk).length) cz), (63, .slice pz ((xl ++ xk).length) cz), (62, .slice pk xk.length ck), (61, .slice pv7 xl.length cp7), (60, .slice pl xl.length cl), (0, .agg #[vI s, vI y, vI l, vI m]), (1, .slice p S.length cp), (2, .slice pl xl.length cl), (3, .slice pk xk.length ck), (4, vP b4 0), (8, .bool false), (9, .slice pa S2.length ca), (10, vI ((runX s y l xl (stX S, 0)).2 : Int)), (11, vI 0), (12, .slice pb S3.length cb), (13, vI ((runX s y l xl (stX S, 0)).2 : Int)), (14, vI 0), (27, .bool false), (59, .bool false)] (fun gy => [.agg #[vI s, vI y, vI l, vI m], .slice p S.length cp, .slice gy.1 gy.2.2.1.length gy.2.1, .slice pz ((xl ++ xk).length) cz, .tuple #[.slice none 0 0, vI 0, vI 1], .tuple #[.slice none 0 0, vI 0, vI 1], .slice none 0 0, vI 0, vI 1, .slice none 0 0, vI 0, vI 1]) (fun gy D wz => HP Tr w8 wz [] ∧ (D 2 = true → (stX gy.2.2.1 = stX S ∧ InS2 wz gy.1 gy.2.2.1))) (none, 0, [], ()) (by kernel_rfl) ⟨rfl, rfl, rfl, rfl, rfl, rfl, rfl, rfl, rfl, rfl, rfl, rfl, rfl, rfl, rfl, rfl, rfl, rfl, rfl, trivial⟩ (by kernel_rfl) (by kernel_rfl) (by kernel_rfl) (fun _ => rfl) (by kernel_rfl) (⟨HP.drew hH27, (fun h => by cases h)⟩) ?_ ?_
        · refine AllOk.cons ?o0 (AllOk.cons ?o1 (AllOk.cons ?o2 (AllOk.cons ?o3 (AllOk.cons ?o4 (AllOk.cons ?o5 (AllOk.cons ?o6 (AllOk.cons ?o7 (AllOk.cons ?o8 (AllOk.cons ?o9 (AllOk.cons ?o10 (AllOk.cons ?o11 (AllOk.nil _))))))))))))
          case o0 =>
            rintro gy D wz hDi hdep hclo ⟨hW, hX0⟩
            exact .inl ⟨rfl, rfl, .inl ⟨gy, wz, fun _ _ => rfl, x_loadS (cs := [vI s, vI y, vI l, vI m]) rfl rfl Try.underlying23 rfl sz23 (HP.oldRange hW trivial (hbox3 0 (by omega))), ⟨hW, hX0⟩⟩⟩
          case o1 =>
            rintro gy D wz hDi hdep hclo ⟨hW, hX0⟩
            exact .inl ⟨rfl, rfl, .inl ⟨gy, wz, fun _ _ => rfl, by kernel_rfl, ⟨hW, hX0⟩⟩⟩
          case o2 =>
            rintro gy D wz hDi hdep hclo ⟨hW, hX0⟩
            have hW2 := hW
            try simp only [hDi, cond_true, cond_false, List.append_nil, List.nil_append, List.cons_append] at hW2
            refine .inl ⟨rfl, rfl, .inr (.inr ⟨11, #[.slice p S.length cp], by kernel_rfl, (own3_any p S cp _ (hS.below (HP.below hW2))).mono ?_⟩)⟩
            rintro e w3 ⟨pu, cu, S6, rfl, hXo, hIo, hbo⟩
            have hA := HP.call hW2 hbo
            refine ⟨⟨pu, cu, S6, ()⟩, fun j hj => ?_, rfl, ⟨?_, fun _ => ⟨hXo, hIo⟩⟩⟩
            · match j, hj with
              | 0, hj => rfl
              | 1, hj => rfl
              | 2, hj => rw [hDi] at hj; cases hj
              | 3, hj => rfl
              | 4, hj => rfl
              | 5, hj => rfl
              | 6, hj => rfl
              | 7, hj => rfl
              | 8, hj => rfl
              | 9, hj => rfl
              | 10, hj => rfl
              | 11, hj => rfl
              | j + 12, _ => rfl
            · show HP Tr w8 w3 []
              try simp only [cond_true, cond_false, List.append_nil, List.nil_append, List.cons_append]
              exact hA
          case o3 =>
            rintro gy D wz hDi hdep hclo ⟨hW, hX0⟩
            exact .inl ⟨rfl, rfl, .inl ⟨gy, wz, fun _ _ => rfl, by kernel_rfl, ⟨hW, hX0⟩⟩⟩
          case o4 =>
            rintro gy D wz hDi hdep hclo ⟨hW, hX0⟩
            have d2 : D 2 = true := hdep ⟨2, .data⟩ (by simp) rfl
            have hW2 := hW
            try simp only [hDi, cond_true, cond_false, List.append_nil, List.nil_append, List.cons_append] at hW2
            refine .inl ⟨rfl, rfl, .inr (.inr ⟨17, #[.agg #[vI s, vI y, vI l, vI m], .slice gy.1 gy.2.2.1.length gy.2.1, .slice pz ((xl ++ xk).length) cz], by kernel_rfl, (Run_no3 (Run3_any s y l m gy.1 gy.2.2.1 gy.2.1 pz (xl ++ xk) cz _ (hX0 d2).2 (hX0 d2).1 hm0 (hZ.below (HP.below hW2)) (by simp only [List.length_append]; omega)) hr2).mono ?_⟩)⟩
            rintro e w3 ⟨rfl, hbr⟩
            have hA := HP.call hW2 hbr
            refine ⟨⟨gy.1, gy.2.1, gy.2.2.1, ()⟩, fun j hj => ?_, rfl, ⟨?_, fun h9 => ⟨(hX0 h9).1, (hX0 h9).2.below hbr⟩⟩⟩
            · match j, hj with
              | 0, hj => rfl
              | 1, hj => rfl
              | 2, hj => rfl
              | 3, hj => rfl
              | 4, hj => rfl
              | 5, hj => rfl
              | 6, hj => rfl
              | 7, hj => rfl
              | 8, hj => rfl
              | 9, hj => rfl
              | 10, hj => rfl
              | 11, hj => rfl
              | j + 12, _ => rfl
            · show HP Tr w8 w3 []
              try simp only [cond_true, cond_false, List.append_nil, List.nil_append, List.cons_append]
              exact hA
          case o5 =>
            rintro gy D wz hDi hdep hclo ⟨hW, hX0⟩
            exact .inl ⟨rfl, rfl, .inl ⟨gy, wz, fun _ _ => rfl, by kernel_rfl, ⟨hW, hX0⟩⟩⟩
          case o6 =>
            rintro gy D wz hDi hdep hclo ⟨hW, hX0⟩
            exact .inl ⟨rfl, rfl, .inl ⟨gy, wz, fun _ _ => rfl, by kernel_rfl, ⟨hW, hX0⟩⟩⟩
          case o7 =>
            rintro gy D wz hDi hdep hclo ⟨hW, hX0⟩
            exact .inl ⟨rfl, rfl, .inl ⟨gy, wz, fun _ _ => rfl, by kernel_rfl, ⟨hW, hX0⟩⟩⟩
          case o8 =>
            rintro gy D wz hDi hdep hclo ⟨hW, hX0⟩
            exact .inl ⟨rfl, rfl, .inl ⟨gy, wz, fun _ _ => rfl, by kernel_rfl, ⟨hW, hX0⟩⟩⟩
          case o9 =>
            rintro gy D wz hDi hdep hclo ⟨hW, hX0⟩
            exact .inl ⟨rfl, rfl, .inl ⟨gy, wz, fun _ _ => rfl, by kernel_rfl, ⟨hW, hX0⟩⟩⟩
          case o10 =>
            rintro gy D wz hDi hdep hclo ⟨hW, hX0⟩
            exact .inl ⟨rfl, rfl, .inl ⟨gy, wz, fun _ _ => rfl, by kernel_rfl, ⟨hW, hX0⟩⟩⟩
          case o11 =>
            rintro gy D wz hDi hdep hclo ⟨hW, hX0⟩
            exact .inl ⟨rfl, rfl, .inl ⟨gy, wz, fun _ _ => rfl, by kernel_rfl, ⟨hW, hX0⟩⟩⟩
        rintro ⟨pu, cu, S6, gu⟩ D w45 hall ⟨hH46, hX0⟩
        have hO3 := hX0 (hall 2 (by kernel_rfl))
        clear hX0
        clear hall
        refine WQ.sub (l' := [(0, .agg #[vI s, vI y, vI l, vI m]), (1, .slice p S.length cp), (2, .slice pl xl.length cl), (3, .slice pk xk.length ck), (4, vP b4 0), (8, .bool false), (9, .slice pa S2.length ca), (10, vI ((runX s y l xl (stX S, 0)).2 : Int)), (11, vI 0), (12, .slice pb S3.length cb), (13, vI ((runX s y l xl (stX S, 0)).2 : Int)), (14, vI 0), (15, .slice pz ((xl ++ xk).length) cz), (16, .slice none 0 0), (17, vI 0), (18, vI 1), (27, .bool false), (59, .bool false)]) ⟨rfl, rfl, rfl, rfl, rfl, rfl, rfl, rfl, rfl, rfl, rfl, rfl, rfl, rfl, rfl, rfl, rfl, rfl, trivial⟩ ?_
        have hbw4 := HP.below hH46
        have hbox4 : ∀ i9, i9 < 1 → World.rangeAt w45 b4 i9 [vI s, vI y, vI l, vI m] := fun i9 h9 => HP.oldRange hH46 trivial (hbox3 i9 h9)
        replace hS := hS.below hbw4
        replace hL := hL.below hbw4
        replace hK := hK.below hbw4
        replace hI1 := hI1.below hbw4
        replace hI2 := hI2.below hbw4
        replace hI3 := hI3.below hbw4
        replace hZ := hZ.below hbw4
        have hBk4 := HP.call hBk3 hbw4
        have hH47 : HP Tr w45 w45 [] := HP.refl w45
        refine WQ.then ?_
        refine hK28 _ _ _ ?_
        refine WC.seq fun K48 hK48 => ?_
        refine WC.seq fun K49 hK49 => ?_
        refine WC.region ?_
        refine WL.pure (v := vI 0) 73 rfl (Nat.le_of_ble_eq_true rfl) rfl rfl (by kernel_rfl) ?_
        refine WL.pure (v := .bool true) 74 rfl (Nat.le_of_ble_eq_true rfl) rfl rfl (x_eql rfl rfl rfl (by decide)) ?_
        refine WL.pure (v := .bool true) 75 rfl (Nat.le_of_ble_eq_true rfl) rfl rfl (by kernel_rfl) ?_
        refine WL.pure (v := vI 1) 76 rfl (Nat.le_of_ble_eq_true rfl) rfl rfl (by kernel_rfl) ?_
        refine WL.pure (v := .bool false) 77 rfl (Nat.le_of_ble_eq_true rfl) rfl rfl (x_eql rfl rfl rfl (by decide)) ?_
        refine WL.pure (v := .bool false) 78 rfl (Nat.le_of_ble_eq_true rfl) rfl rfl (by kernel_rfl) ?_
        refine WL.nil ?_
        refine WQ.then ?_
        refine hK49 _ _ _ ?_
        refine WC.no rfl ?_
        refine WC.skip ?_
        refine WQ.then ?_
        refine hK48 _ _ _ ?_
        refine WC.seq fun K50 hK50 => ?_
        refine WC.region ?_
        refine WL.call (f := 16) (args := #[]) 102 rfl (Nat.le_of_ble_eq_true rfl) rfl rfl (by kernel_rfl) ?_
        refine (sane_any _).mono ?_
        rintro e w51 ⟨rfl, hb52⟩
        refine ⟨_, rfl, ?_⟩
        have hH53 : HP Tr w45 _ [] := HP.call hH47 hb52
        refine WL.pure (v := .bool true) 8 rfl (Nat.le_of_ble_eq_true rfl) rfl rfl (by kernel_rfl) ?_
        refine WL.nil ?_
        refine WQ.then ?_
        refine hK50 _ _ _ ?_
        refine WC.sub (l' := [(0, .agg #[vI s, vI y, vI l, vI m]), (1, .slice p S.length cp), (2, .slice pl xl.length cl), (3, .slice pk xk.length ck), (4, vP b4 0), (8, .bool true), (9, .slice pa S2.length ca), (10, vI ((runX s y l xl (stX S, 0)).2 : Int)), (11, vI 0), (12, .slice pb S3.length cb), (13, vI ((runX s y l xl (stX S, 0)).2 : Int)), (14, vI 0), (15, .slice pz ((xl ++ xk).length) cz), (16, .slice none 0 0), (17, vI 0), (18, vI 1), (27, .bool false), (59, .bool false), (78, .bool false)]) ⟨rfl, rfl, rfl, rfl, rfl, rfl, rfl, rfl, rfl, rfl, rfl, rfl, rfl, rfl, rfl, rfl, rfl, rfl, rfl, trivial⟩ ?_
        refine WC.ret ?_
        refine WQ.ret1 8 rfl rfl ?_
        exact ⟨rfl, HP.below (HP.call hBk4 (HP.below hH53))⟩
    ·
      refine WC.confG (γ := Option Addr × Nat × List SlI × Unit) [(27, .bool false), (26, vI ((xl.length : Int) + (xk.length : Int))), (25, vI (xk.length : Int)), (24, .slice pk xk.length ck), (23, vI (xl.length : Int)), (22, .slice pl xl.length cl), (8, .bool false), (4, vP b4 0), (0, .agg #[vI s, vI y, vI l, vI m]), (1, .slice p S.length cp), (2, .slice pl xl.length cl), (3, .slice pk xk.length ck)] (fun gy => [.agg #[vI s, vI y, vI l, vI m], .slice p S.length cp, .slice gy.1 gy.2.2.1.length gy.2.1, .slice pl xl.length cl, .tuple #[.slice none 0 0, vI 0, vI 1], .tuple #[.slice none 0 0, vI 0, vI 1], .slice none 0 0, vI 0, vI 1, .slice none 0 0, vI 0, vI 1]) (fun gy D wz => HP Tr w wz [.cel b4 #[vI s, vI y, vI l, vI m] 23] ∧ (D 2 = true → (stX gy.2.2.1 = stX S ∧ InS2 wz gy.1 gy.2.2.1))) (none, 0, [], ()) (by kernel_rfl) ⟨rfl, rfl, rfl, rfl, rfl, rfl, rfl, rfl, rfl, rfl, rfl, rfl, trivial⟩ (by kernel_rfl) (by kernel_rfl) (by kernel_rfl) (fun _ => rfl) (by kernel_rfl) (⟨HP.drew hH4, (fun h => by cases h)⟩) ?_ ?_
      · refine AllOk.cons ?o0 (AllOk.cons ?o1 (AllOk.cons ?o2 (AllOk.cons ?o3 (AllOk.cons ?o4 (AllOk.cons ?o5 (AllOk.cons ?o6 (AllOk.cons ?o7 (AllOk.cons ?o8 (AllOk.cons ?o9 (AllOk.cons ?o10 (AllOk.cons ?o11 (AllOk.nil _))))))))))))
        case o0 =>
          rintro gy D wz hDi hdep hclo ⟨hW, hX0⟩
          exact .inl ⟨rfl, rfl, .inl ⟨gy, wz, fun _ _ => rfl, x_loadS (cs := [vI s, vI y, vI l, vI m]) rfl rfl Try.underlying23 rfl sz23 (HP.range hW 0 rfl rfl), ⟨hW, hX0⟩⟩⟩
        case o1 =>
          rintro gy D wz hDi hdep hclo ⟨hW, hX0⟩
          exact .inl ⟨rfl, rfl, .inl ⟨gy, wz, fun _ _ => rfl, by kernel_rfl, ⟨hW, hX0⟩⟩⟩
        case o2 =>
          rintro gy D wz hDi hdep hclo ⟨hW, hX0⟩
          have hW2 := hW
          try simp only [hDi, cond_true, cond_false, List.append_nil, List.nil_append, List.cons_append] at hW2
          refine .inl ⟨rfl, rfl, .inr (.inr ⟨11, #[.slice p S.length cp], by kernel_rfl, (own3_any p S cp _ (hS.below (HP.below hW2))).mono ?_⟩)⟩
          rintro e w3 ⟨pt, ct, S1, rfl, hXo, hIo, hbo⟩
          have hA := HP.call hW2 hbo
          refine ⟨⟨pt, ct, S1, ()⟩, fun j hj => ?_, rfl, ⟨?_, fun _ => ⟨hXo, hIo⟩⟩⟩
          · match j, hj with
            | 0, hj => rfl
            | 1, hj => rfl
            | 2, hj => rw [hDi] at hj; cases hj
            | 3, hj => rfl
            | 4, hj => rfl
            | 5, hj => rfl
            | 6, hj => rfl
            | 7, hj => rfl
            | 8, hj => rfl
            | 9, hj => rfl
            | 10, hj => rfl
            | 11, hj => rfl
            | j + 12, _ => rfl
          · show HP Tr w w3 [.cel b4 #[vI s, vI y, vI l, vI m] 23]
            try simp only [cond_true, cond_false, List.append_nil, List.nil_append, List.cons_append]
            exact hA
        case o3 =>
          rintro gy D wz hDi hdep hclo ⟨hW, hX0⟩
          exact .inl ⟨rfl, rfl, .inl ⟨gy, wz, fun _ _ => rfl, by kernel_rfl, ⟨hW, hX0⟩⟩⟩
        case o4 =>
          rintro gy D wz hDi hdep hclo ⟨hW, hX0⟩
          have d2 : D 2 = true := hdep ⟨2, .data⟩ (by simp) rfl
          have hW2 := hW
          try simp only [hDi, cond_true, cond_false, List.append_nil, List.nil_append, List.cons_append] at hW2
          refine .inl ⟨rfl, rfl, .inr (.inr ⟨17, #[.agg #[vI s, vI y, vI l, vI m], .slice gy.1 gy.2.2.1.length gy.2.1, .slice pl xl.length cl], by kernel_rfl, (Run_no3 (Run3_any s y l m gy.1 gy.2.2.1 gy.2.1 pl xl cl _ (hX0 d2).2 (hX0 d2).1 hm0 (hL.inn.below (HP.below hW2)) (by have := hL.len; omega)) hr1).mono ?_⟩)⟩
          rintro e w3 ⟨rfl, hbr⟩
          have hA := HP.call hW2 hbr
          refine ⟨⟨gy.1, gy.2.1, gy.2.2.1, ()⟩, fun j hj => ?_, rfl, ⟨?_, fun h9 => ⟨(hX0 h9).1, (hX0 h9).2.below hbr⟩⟩⟩
          · match j, hj with
            | 0, hj => rfl
            | 1, hj => rfl
            | 2, hj => rfl
            | 3, hj => rfl
            | 4, hj => rfl
            | 5, hj => rfl
            | 6, hj => rfl
            | 7, hj => rfl
            | 8, hj => rfl
            | 9, hj => rfl
            | 10, hj => rfl
            | 11, hj => rfl
            | j + 12, _ => rfl
          · show HP Tr w w3 [.cel b4 #[vI s, vI y, vI l, vI m] 23]
            try simp only [cond_true, cond_false, List.append_nil, List.nil_append, List.cons_append]
            exact hA
        case o5 =>
          rintro gy D wz hDi hdep hclo ⟨hW, hX0⟩
          exact .inl ⟨rfl, rfl, .inl ⟨gy, wz, fun _ _ => rfl, by kernel_rfl, ⟨hW, hX0⟩⟩⟩
        case o6 =>
          rintro gy D wz hDi hdep hclo ⟨hW, hX0⟩
          exact .inl ⟨rfl, rfl, .inl ⟨gy, wz, fun _ _ => rfl, by kernel_rfl, ⟨hW, hX0⟩⟩⟩
        case o7 =>
          rintro gy D wz hDi hdep hclo ⟨hW, hX0⟩
          exact .inl ⟨rfl, rfl, .inl ⟨gy, wz, fun _ _ => rfl, by kernel_rfl, ⟨hW, hX0⟩⟩⟩
        case o8 =>
          rintro gy D wz hDi hdep hclo ⟨hW, hX0⟩
          exact .inl ⟨rfl, rfl, .inl ⟨gy, wz, fun _ _ => rfl, by kernel_rfl, ⟨hW, hX0⟩⟩⟩
        case o9 =>
          rintro gy D wz hDi hdep hclo ⟨hW, hX0⟩
          exact .inl ⟨rfl, rfl, .inl ⟨gy, wz, fun _ _ => rfl, by kernel_rfl, ⟨hW, hX0⟩⟩⟩
        case o10 =>
          rintro gy D wz hDi hdep hclo ⟨hW, hX0⟩
          exact .inl ⟨rfl, rfl, .inl ⟨gy, wz, fun _ _ => rfl, by kernel_rfl, ⟨hW, hX0⟩⟩⟩
        case o11 =>
          rintro gy D wz hDi hdep hclo ⟨hW, hX0⟩
          exact .inl ⟨rfl, rfl, .inl ⟨gy, wz, fun _ _ => rfl, by kernel_rfl, ⟨hW, hX0⟩⟩⟩
      rintro ⟨pt, ct, S1, gu⟩ D w54 hall ⟨hH55, hX0⟩
      have hO1 := hX0 (hall 2 (by kernel_rfl))
      clear hX0
      clear hall
      refine WQ.sub (l' := [(0, .agg #[vI s, vI y, vI l, vI m]), (1, .slice p S.length cp), (2, .slice pl xl.length cl), (3, .slice pk xk.length ck), (4, vP b4 0), (8, .bool false), (9, .slice none 0 0), (10, vI 0), (11, vI 1), (27, .bool false)]) ⟨rfl, rfl, rfl, rfl, rfl, rfl, rfl, rfl, rfl, rfl, trivial⟩ ?_
      obtain ⟨hX1, hI1⟩ := hO1
      have hbw1 := HP.below hH55
      have hbox1 : ∀ i9, i9 < 1 → World.rangeAt w54 b4 i9 [vI s, vI y, vI l, vI m] := fun i9 h9 => match i9, h9 with | 0, _ => HP.range hH55 0 rfl rfl | n + 1, h9 => absurd h9 (by omega)
      replace hS := hS.below hbw1
      replace hL := hL.below hbw1
      replace hK := hK.below hbw1
      have hBk1 := HP.call (HP.refl (S := Tr) w) hbw1
      have hH56 : HP Tr w54 w54 [] := HP.refl w54
      refine WQ.then ?_
      refine hK11 _ _ _ ?_
      refine WC.seq fun K57 hK57 => ?_
      refine WC.region ?_
      refine WL.pure (v := .agg #[vI s, vI y, vI l, vI m]) 39 rfl (Nat.le_of_ble_eq_true rfl) rfl rfl (x_loadS (cs := [vI s, vI y, vI l, vI m]) rfl rfl Try.underlying23 rfl sz23 (HP.oldRange hH56 trivial (hbox1 0 (by omega)))) ?_
      refine WL.pure (v := .slice p S.length cp) 40 rfl (Nat.le_of_ble_eq_true rfl) rfl rfl (by kernel_rfl) ?_
      refine WL.pure (v := .slice pl xl.length cl) 41 rfl (Nat.le_of_ble_eq_true rfl) rfl rfl (by kernel_rfl) ?_
      refine WL.call (f := 18) (args := #[.agg #[vI s, vI y, vI l, vI m], .slice p S.length cp, .slice pl xl.length cl]) 42 rfl (Nat.le_of_ble_eq_true rfl) rfl rfl (by kernel_rfl) ?_
      refine (Run_no3 (rRun3_any s y l m p S cp pl xl cl _ (hS.below (HP.below hH56)) rfl ((hL.below (HP.below hH56))).inn (by have := hL.len; omega)) hr1).mono ?_
      rintro e w58 ⟨rfl, hb59⟩
      refine ⟨_, rfl, ?_⟩
      have hH60 : HP Tr w54 _ [] := HP.call hH56 hb59
      refine WL.pure (v := .tuple #[.slice none 0 0, vI 0, vI 1]) 38 rfl (Nat.le_of_ble_eq_true rfl) rfl rfl (by kernel_rfl) ?_
      refine WL.pure (v := .slice none 0 0) 43 rfl (Nat.le_of_ble_eq_true rfl) rfl rfl (by kernel_rfl) ?_
      refine WL.pure (v := vI 0) 44 rfl (Nat.le_of_ble_eq_true rfl) rfl rfl (by kernel_rfl) ?_
      refine WL.pure (v := vI 1) 45 rfl (Nat.le_of_ble_eq_true rfl) rfl rfl (by kernel_rfl) ?_
      refine WL.pure (v := .slice none 0 0) 12 rfl (Nat.le_of_ble_eq_true rfl) rfl rfl (by kernel_rfl) ?_
      refine WL.pure (v := vI 0) 13 rfl (Nat.le_of_ble_eq_true rfl) rfl rfl (by kernel_rfl) ?_
      refine WL.pure (v := vI 1) 14 rfl (Nat.le_of_ble_eq_true rfl) rfl rfl (by kernel_rfl) ?_
      refine WL.nil ?_
      refine WQ.then ?_
      refine hK57 _ _ _ ?_
      refine WC.sub (l' := [(0, .agg #[vI s, vI y, vI l, vI m]), (1, .slice p S.length cp), (2, .slice pl xl.length cl), (3, .slice pk xk.length ck), (4, vP b4 0), (8, .bool false), (9, .slice none 0 0), (10, vI 0), (11, vI 1), (12, .slice none 0 0), (13, vI 0), (14, vI 1), (27, .bool false)]) ⟨rfl, rfl, rfl, rfl, rfl, rfl, rfl, rfl, rfl, rfl, rfl, rfl, rfl, trivial⟩ ?_
      refine WC.seq fun K61 hK61 => ?_
      refine WC.seq fun K62 hK62 => ?_
      refine WC.region ?_
      refine WL.pure (v := vI 1) 46 rfl (Nat.le_of_ble_eq_true rfl) rfl rfl (by kernel_rfl) ?_
      refine WL.pure (v := vI 1) 47 rfl (Nat.le_of_ble_eq_true rfl) rfl rfl (by kernel_rfl) ?_
      refine WL.pure (v := .bool false) 48 rfl (Nat.le_of_ble_eq_true rfl) rfl rfl (x_neq rfl rfl rfl (by decide)) ?_
      refine WL.pure (v := .bool false) 49 rfl (Nat.le_of_ble_eq_true rfl) rfl rfl (by kernel_rfl) ?_
      refine WL.pure (v := vI 0) 50 rfl (Nat.le_of_ble_eq_true rfl) rfl rfl (by kernel_rfl) ?_
      refine WL.pure (v := vI 0) 51 rfl (Nat.le_of_ble_eq_true rfl) rfl rfl (by kernel_rfl) ?_
      refine WL.pure (v := .bool false) 52 rfl (Nat.le_of_ble_eq_true rfl) rfl rfl (x_neq rfl rfl rfl (by decide)) ?_
      refine WL.pure (v := .bool false) 53 rfl (Nat.le_of_ble_eq_true rfl) rfl rfl (by kernel_rfl) ?_
      refine WL.pure (v := .bool false) 54 rfl (Nat.le_of_ble_eq_true rfl) rfl rfl (by kernel_rfl) ?_
      refine WL.pure (v := .slice none 0 0) 55 rfl (Nat.le_of_ble_eq_true rfl) rfl rfl (by kernel_rfl) ?_
      refine WL.pure (v := .slice none 0 0) 56 rfl (Nat.le_of_ble_eq_true rfl) rfl rfl (by kernel_rfl) ?_
      refine WL.call (f := 14) (args := #[.slice none 0 0, .slice none 0 0]) 57 rfl (Nat.le_of_ble_eq_true rfl) rfl rfl (by kernel_rfl) ?_
      refine (same0_any _).mono ?_
      rintro e w63 ⟨rfl, hb64⟩
      refine ⟨_, rfl, ?_⟩
      have hH65 : HP Tr w54 _ [] := HP.call hH60 hb64
      refine WL.pure (v := .bool false) 58 rfl (Nat.le_of_ble_eq_true rfl) rfl rfl (by kernel_rfl) ?_
      refine WL.pure (v := .bool false) 59 rfl (Nat.le_of_ble_eq_true rfl) rfl rfl (by kernel_rfl) ?_
      refine WL.nil ?_
      refine WQ.then ?_
      refine hK62 _ _ _ ?_
      refine WC.sub (l' := [(0, .agg #[vI s, vI y, vI l, vI m]), (1, .slice p S.length cp), (2, .slice pl xl.length cl), (3, .slice pk xk.length ck), (4, vP b4 0), (8, .bool false), (9, .slice none 0 0), (10, vI 0), (11, vI 1), (12, .slice none 0 0), (13, vI 0), (14, vI 1), (27, .bool false), (59, .bool false)]) ⟨rfl, rfl, rfl, rfl, rfl, rfl, rfl, rfl, rfl, rfl, rfl, rfl, rfl, rfl, trivial⟩ ?_
      refine WC.no rfl ?_
      refine WC.skip ?_
      refine WQ.then ?_
      refine hK61 _ _ _ ?_
      refine WC.seq fun K66 hK66 => ?_
      refine WC.region ?_
      refine WL.pure (v := .slice pl xl.length cl) 60 rfl (Nat.le_of_ble_eq_true rfl) rfl rfl (by kernel_rfl) ?_
      have hH67 : HP Tr w54 _ [.own (.slice none 0 0) 0 [] 3 1] := HP.ownNil hH65 3 1
      obtain ⟨j0, hj0, jz0, jz1, jz2⟩ := infoI
      refine WL.appendSrc (iR xl) 0 hH67 61 rfl (by decide) rfl rfl rfl rfl Try.underlying33 hj0 jz0 jz1 jz2 rfl (by decide) rfl (src_of ((hL.below (HP.below hH67))).inn (by rw [List.take_length]) (by have q9 := (hL.below (HP.below hH67)); exact q9.nil)) (by simp) (fun u hu => by obtain ⟨x9, _, rfl⟩ := List.mem_map.1 hu; rfl) (by unfold maxLen; omega) (by omega) ?_
      rintro v7 w7 - hA7
      obtain ⟨pv7, cp7, rfl⟩ := own_row (HP.get hA7 0 rfl)
      rw [Nat.zero_add, List.nil_append] at hA7
      rw [show 0 + xl.length = xl.length from Nat.zero_add _]
      have hH68 : HP Tr w54 _ [rowI' pv7 cp7 xl] := hA7
      refine WL.pure (v := .slice pk xk.length ck) 62 rfl (Nat.le_of_ble_eq_true rfl) rfl rfl (by kernel_rfl) ?_
      refine WL.appendSrc (iR xk) 0 hH68 63 rfl (by decide) rfl rfl rfl rfl Try.underlying33 hj0 jz0 jz1 jz2 rfl (by decide) rfl (src_of ((hK.below (HP.below hH68))).inn (by rw [List.take_length]) (by have q9 := (hK.below (HP.below hH68)); exact q9.nil)) (by simp) (fun u hu => by obtain ⟨x9, _, rfl⟩ := List.mem_map.1 hu; rfl) (by unfold maxLen; omega) (by omega) ?_
      rintro v8 w8 - hA8
      obtain ⟨pz, cz, rfl⟩ := own_row (HP.get hA8 0 rfl)
      rw [show xl.length + xk.length = (xl ++ xk).length from (List.length_append ..).symm, show iR xl ++ iR xk = iR (xl ++ xk) from (List.map_append ..).symm] at hA8
      rw [show xl.length + xk.length = (xl ++ xk).length from (List.length_append ..).symm]
      have hH69 : HP Tr w54 _ [rowI' pz cz (xl ++ xk)] := hA8
      have hZ : InI w8 pz (xl ++ xk) := row_in (HP.get hH69 0 rfl)
      have hbw2 := HP.below hH69
      have hbox2 : ∀ i9, i9 < 1 → World.rangeAt w8 b4 i9 [vI s, vI y, vI l, vI m] := fun i9 h9 => HP.oldRange hH69 trivial (hbox1 i9 h9)
      replace hS := hS.below hbw2
      replace hL := hL.below hbw2
      replace hK := hK.below hbw2
      replace hI1 := hI1.below hbw2
      have hBk2 := HP.call hBk1 hbw2
      have hH70 : HP Tr w8 w8 [] := HP.refl w8
      refine WL.pure (v := .slice pz ((xl ++ xk).length) cz) 15 rfl (Nat.le_of_ble_eq_true rfl) rfl rfl (by kernel_rfl) ?_
      refine WL.nil ?_
      refine WQ.then ?_
      refine hK66 _ _ _ ?_
      refine WC.seq fun K71 hK71 => ?_
      rcases Bool.eq_false_or_eq_true (runOk s y l m (stX S) (xl ++ xk)) with hr2 | hr2
      ·
        refine WC.confG (γ := Option Addr × Nat × List SlI × Option Addr × Nat × List SlI × Unit) [(15, .slice pz ((xl ++ xk).length) cz), (63, .slice pz ((xl ++ xk).length) cz), (62, .slice pk xk.length ck), (61, .slice pv7 xl.length cp7), (60, .slice pl xl.length cl), (0, .agg #[vI s, vI y, vI l, vI m]), (1, .slice p S.length cp), (2, .slice pl xl.length cl), (3, .slice pk xk.length ck), (4, vP b4 0), (8, .bool false), (9, .slice none 0 0), (10, vI 0), (11, vI 1), (12, .slice none 0 0), (13, vI 0), (14, vI 1), (27, .bool false), (59, .bool false)] (fun gy => [.agg #[vI s, vI y, vI l, vI m], .slice p S.length cp, .slice gy.1 gy.2.2.1.length gy.2.1, .slice pz ((xl ++ xk).length) cz, .tuple #[.slice gy.2.2.2.1 gy.2.2.2.2.2.1.length gy.2.2.2.2.1, vI ((runX s y l (xl ++ xk) (stX S, 0)).2 : Int), vI 0], .tuple #[.slice gy.2.2.2.1 gy.2.2.2.2.2.1.length gy.2.2.2.2.1, vI ((runX s y l (xl ++ xk) (stX S, 0)).2 : Int), vI 0], .slice gy.2.2.2.1 gy.2.2.2.2.2.1.length gy.2.2.2.2.1, vI ((runX s y l (xl ++ xk) (stX S, 0)).2 : Int), vI 0, .slice gy.2.2.2.1 gy.2.2.2.2.2.1.length gy.2.2.2.2.1, vI ((runX s y l (xl ++ xk) (stX S, 0)).2 : Int), vI 0]) (fun gy D wz => HP Tr w8 wz [] ∧ (D 2 = true → (stX gy.2.2.1 = stX S ∧ InS2 wz gy.1 gy.2.2.1)) ∧ (D 4 = true → (stX gy.2.2.2.2.2.1 = (runX s y l (xl ++ xk) (stX S, 0)).1 ∧ InS2 wz gy.2.2.2.1 gy.2.2.2.2.2.1))) (none, 0, [], none, 0, [], ()) (by kernel_rfl) ⟨rfl, rfl, rfl, rfl, rfl, rfl, rfl, rfl, rfl, rfl, rfl, rfl, rfl, rfl, rfl, rfl, rfl, rfl, rfl, trivial⟩ (by kernel_rfl) (by kernel_rfl) (by kernel_rfl) (fun _ => rfl) (by kernel_rfl) (⟨HP.drew hH70, (fun h => by cases h), (fun h => by cases h)⟩) ?_ ?_
        · refine AllOk.cons ?o0 (AllOk.cons ?o1 (AllOk.cons ?o2 (AllOk.cons ?o3 (AllOk.cons ?o4 (AllOk.cons ?o5 (AllOk.cons ?o6 (AllOk.cons ?o7 (AllOk.cons ?o8 (AllOk.cons ?o9 (AllOk.cons ?o10 (AllOk.cons ?o11 (AllOk.nil _))))))))))))
          case o0 =>
            rintro gy D wz hDi hdep hclo ⟨hW, hX0, hX1⟩
            exact .inl ⟨rfl, rfl, .inl ⟨gy, wz, fun _ _ => rfl, x_loadS (cs := [vI s, vI y, vI l, vI m]) rfl rfl Try.underlying23 rfl sz23 (HP.oldRange hW trivial (hbox2 0 (by omega))), ⟨hW, hX0, hX1⟩⟩⟩
          case o1 =>
            rintro gy D wz hDi hdep hclo ⟨hW, hX0, hX1⟩
            exact .inl ⟨rfl, rfl, .inl ⟨gy, wz, fun _ _ => rfl, by kernel_rfl, ⟨hW, hX0, hX1⟩⟩⟩
          case o2 =>
            rintro gy D wz hDi hdep hclo ⟨hW, hX0, hX1⟩
            have hW2 := hW
            try simp only [hDi, cond_true, cond_false, List.append_nil, List.nil_append, List.cons_append] at hW2
            refine .inl ⟨rfl, rfl, .inr (.inr ⟨11, #[.slice p S.length cp], by kernel_rfl, (own3_any p S cp _ (hS.below (HP.below hW2))).mono ?_⟩)⟩
            rintro e w3 ⟨pu, cu, S6, rfl, hXo, hIo, hbo⟩
            have hA := HP.call hW2 hbo
            refine ⟨⟨pu, cu, S6, gy.2.2.2.1, gy.2.2.2.2.1, gy.2.2.2.2.2.1, ()⟩, fun j hj => ?_, rfl, ⟨?_, fun _ => ⟨hXo, hIo⟩, fun h9 => ⟨(hX1 h9).1, (hX1 h9).2.below hbo⟩⟩⟩
            · match j, hj with
              | 0, hj => rfl
              | 1, hj => rfl
              | 2, hj => rw [hDi] at hj; cases hj
              | 3, hj => rfl
              | 4, hj => rfl
              | 5, hj => rfl
              | 6, hj => rfl
              | 7, hj => rfl
              | 8, hj => rfl
              | 9, hj => rfl
              | 10, hj => rfl
              | 11, hj => rfl
              | j + 12, _ => rfl
            · show HP Tr w8 w3 []
              try simp only [cond_true, cond_false, List.append_nil, List.nil_append, List.cons_append]
              exact hA
          case o3 =>
            rintro gy D wz hDi hdep hclo ⟨hW, hX0, hX1⟩
            exact .inl ⟨rfl, rfl, .inl ⟨gy, wz, fun _ _ => rfl, by kernel_rfl, ⟨hW, hX0, hX1⟩⟩⟩
          case o4 =>
            rintro gy D wz hDi hdep hclo ⟨hW, hX0, hX1⟩
            have d2 : D 2 = true := hdep ⟨2, .data⟩ (by simp) rfl
            have d5 : D 5 = false := by
              cases h : D 5 with
              | false => rfl
              | true => exact absurd (hclo 5 _ rfl h ⟨4, .data⟩ (by simp) rfl) (by rw [hDi]; exact Bool.false_ne_true)
            have d6 : D 6 = false := by
              cases h : D 6 with
              | false => rfl
              | true => exact absurd (hclo 6 _ rfl h ⟨5, .data⟩ (by simp) rfl) (by rw [d5]; exact Bool.false_ne_true)
            have d9 : D 9 = false := by
              cases h : D 9 with
              | false => rfl
              | true => exact absurd (hclo 9 _ rfl h ⟨4, .chain⟩ (by simp) rfl) (by rw [hDi]; exact Bool.false_ne_true)
            have hW2 := hW
            try simp only [hDi, cond_true, cond_false, List.append_nil, List.nil_append, List.cons_append] at hW2
            refine .inl ⟨rfl, rfl, .inr (.inr ⟨17, #[.agg #[vI s, vI y, vI l, vI m], .slice gy.1 gy.2.2.1.length gy.2.1, .slice pz ((xl ++ xk).length) cz], by kernel_rfl, (Run_yes3 (Run3_any s y l m gy.1 gy.2.2.1 gy.2.1 pz (xl ++ xk) cz _ (hX0 d2).2 (hX0 d2).1 hm0 (hZ.below (HP.below hW2)) (by simp only [List.length_append]; omega)) hr2).mono ?_⟩)⟩
            rintro e w3 ⟨pc, cc, S4, rfl, hXr, hIr, hbr⟩
            have hA := HP.call hW2 hbr
            refine ⟨⟨gy.1, gy.2.1, gy.2.2.1, pc, cc, S4, ()⟩, fun j hj => ?_, rfl, ⟨?_, fun h9 => ⟨(hX0 h9).1, (hX0 h9).2.below hbr⟩, fun _ => ⟨hXr, hIr⟩⟩⟩
            · match j, hj with
              | 0, hj => rfl
              | 1, hj => rfl
              | 2, hj => rfl
              | 3, hj => rfl
              | 4, hj => rw [hDi] at hj; cases hj
              | 5, hj => exact absurd hj (by rw [d5]; exact Bool.false_ne_true)
              | 6, hj => exact absurd hj (by rw [d6]; exact Bool.false_ne_true)
              | 7, hj => rfl
              | 8, hj => rfl
              | 9, hj => exact absurd hj (by rw [d9]; exact Bool.false_ne_true)
              | 10, hj => rfl
              | 11, hj => rfl
              | j + 12, _ => rfl
            · show HP Tr w8 w3 []
              try simp only [cond_true, cond_false, List.append_nil, List.nil_append, List.cons_append]
              exact hA
          case o5 =>
            rintro gy D wz hDi hdep hclo ⟨hW, hX0, hX1⟩
            exact .inl ⟨rfl, rfl, .inl ⟨gy, wz, fun _ _ => rfl, by kernel_rfl, ⟨hW, hX0, hX1⟩⟩⟩
          case o6 =>
            rintro gy D wz hDi hdep hclo ⟨hW, hX0, hX1⟩
            exact .inl ⟨rfl, rfl, .inl ⟨gy, wz, fun _ _ => rfl, by kernel_rfl, ⟨hW, hX0, hX1⟩⟩⟩
          case o7 =>
            rintro gy D wz hDi hdep hclo ⟨hW, hX0, hX1⟩
            exact .inl ⟨rfl, rfl, .inl ⟨gy, wz, fun _ _ => rfl, by kernel_rfl, ⟨hW, hX0, hX1⟩⟩⟩
          case o8 =>
            rintro gy D wz hDi hdep hclo ⟨hW, hX0, hX1⟩
            exact .inl ⟨rfl, rfl, .inl ⟨gy, wz, fun _ _ => rfl, by kernel_rfl, ⟨hW, hX0, hX1⟩⟩⟩
          case o9 =>
            rintro gy D wz hDi hdep hclo ⟨hW, hX0, hX1⟩
            exact .inl ⟨rfl, rfl, .inl ⟨gy, wz, fun _ _ => rfl, by kernel_rfl, ⟨hW, hX0, hX1⟩⟩⟩
          case o10 =>
            rintro gy D wz hDi hdep hclo ⟨hW, hX0, hX1⟩
            exact .inl ⟨rfl, rfl, .inl ⟨gy, wz, fun _ _ => rfl, by kernel_rfl, ⟨hW, hX0, hX1⟩⟩⟩
          case o11 =>
            rintro gy D wz hDi hdep hclo ⟨hW, hX0, hX1⟩
            exact .inl ⟨rfl, rfl, .inl ⟨gy, wz, fun _ _ => rfl, by kernel_rfl, ⟨hW, hX0, hX1⟩⟩⟩
        rintro ⟨pu, cu, S6, pc, cc, S4, gu⟩ D w72 hall ⟨hH73, hX0, hX1⟩
        have hO3 := hX0 (hall 2 (by kernel_rfl))
        clear hX0
        have hO4 := hX1 (hall 4 (by kernel_rfl))
        clear hX1
        clear hall
        refine WQ.sub (l' := [(0, .agg #[vI s, vI y, vI l, vI m]), (1, .slice p S.length cp), (2, .slice pl xl.length cl), (3, .slice pk xk.length ck), (4, vP b4 0), (8, .bool false), (9, .slice none 0 0), (10, vI 0), (11, vI 1), (12, .slice none 0 0), (13, vI 0), (14, vI 1), (15, .slice pz ((xl ++ xk).length) cz), (16, .slice pc S4.length cc), (17, vI ((runX s y l (xl ++ xk) (stX S, 0)).2 : Int)), (18, vI 0), (27, .bool false), (59, .bool false)]) ⟨rfl, rfl, rfl, rfl, rfl, rfl, rfl, rfl, rfl, rfl, rfl, rfl, rfl, rfl, rfl, rfl, rfl, rfl, trivial⟩ ?_
        obtain ⟨hX4, hI4⟩ := hO4
        have hbw3 := HP.below hH73
        have hbox3 : ∀ i9, i9 < 1 → World.rangeAt w72 b4 i9 [vI s, vI y, vI l, vI m] := fun i9 h9 => HP.oldRange hH73 trivial (hbox2 i9 h9)
        replace hS := hS.below hbw3
        replace hL := hL.below hbw3
        replace hK := hK.below hbw3
        replace hI1 := hI1.below hbw3
        replace hZ := hZ.below hbw3
        have hBk3 := HP.call hBk2 hbw3
        have hH74 : HP Tr w72 w72 [] := HP.refl w72
        refine WQ.then ?_
        refine hK71 _ _ _ ?_
        refine WC.seq fun K75 hK75 => ?_
        refine WC.seq fun K76 hK76 => ?_
        refine WC.region ?_
        refine WL.pure (v := vI 1) 73 rfl (Nat.le_of_ble_eq_true rfl) rfl rfl (by kernel_rfl) ?_
        refine WL.pure (v := .bool false) 74 rfl (Nat.le_of_ble_eq_true rfl) rfl rfl (x_eql rfl rfl rfl (by decide)) ?_
        refine WL.pure (v := .bool false) 75 rfl (Nat.le_of_ble_eq_true rfl) rfl rfl (by kernel_rfl) ?_
        refine WL.pass 76 rfl (Nat.le_of_ble_eq_true rfl) rfl ?_
        refine WL.pass 77 rfl (Nat.le_of_ble_eq_true rfl) rfl ?_
        refine WL.pure (v := .bool false) 78 rfl (Nat.le_of_ble_eq_true rfl) rfl rfl (by kernel_rfl) ?_
        refine WL.nil ?_
        refine WQ.then ?_
        refine hK76 _ _ _ ?_
        refine WC.no rfl ?_
        refine WC.skip ?_
        refine WQ.then ?_
        refine hK75 _ _ _ ?_
        refine WC.seq fun K77 hK77 => ?_
        refine WC.region ?_
        refine WL.call (f := 16) (args := #[]) 102 rfl (Nat.le_of_ble_eq_true rfl) rfl rfl (by kernel_rfl) ?_
        refine (sane_any _).mono ?_
        rintro e w78 ⟨rfl, hb79⟩
        refine ⟨_, rfl, ?_⟩
        have hH80 : HP Tr w72 _ [] := HP.call hH74 hb79
        refine WL.pure (v := .bool true) 8 rfl (Nat.le_of_ble_eq_true rfl) rfl rfl (by kernel_rfl) ?_
        refine WL.nil ?_
        refine WQ.then ?_
        refine hK77 _ _ _ ?_
        refine WC.sub (l' := [(0, .agg #[vI s, vI y, vI l, vI m]), (1, .slice p S.length cp), (2, .slice pl xl.length cl), (3, .slice pk xk.length ck), (4, vP b4 0), (8, .bool true), (9, .slice none 0 0), (10, vI 0), (11, vI 1), (12, .slice none 0 0), (13, vI 0), (14, vI 1), (15, .slice pz ((xl ++ xk).length) cz), (16, .slice pc S4.length cc), (17, vI ((runX s y l (xl ++ xk) (stX S, 0)).2 : Int)), (18, vI 0), (27, .bool false), (59, .bool false), (78, .bool false)]) ⟨rfl, rfl, rfl, rfl, rfl, rfl, rfl, rfl, rfl, rfl, rfl, rfl, rfl, rfl, rfl, rfl, rfl, rfl, rfl, trivial⟩ ?_
        refine WC.ret ?_
        refine WQ.ret1 8 rfl rfl ?_
        exact ⟨rfl, HP.below (HP.call hBk3 (HP.below hH80))⟩
      ·
        refine WC.confG (γ := Option Addr × Nat × List SlI × Unit) [(15, .slice pz ((xl ++ xk).length) cz), (63, .slice pz ((xl ++ xk).length) cz), (62, .slice pk xk.length ck), (61, .slice pv7 xl.length cp7), (60, .slice pl xl.length cl), (0, .agg #[vI s, vI y, vI l, vI m]), (1, .slice p S.length cp), (2, .slice pl xl.length cl), (3, .slice pk xk.length ck), (4, vP b4 0), (8, .bool false), (9, .slice none 0 0), (10, vI 0), (11, vI 1), (12, .slice none 0 0), (13, vI 0), (14, vI 1), (27, .bool false), (59, .bool false)] (fun gy => [.agg #[vI s, vI y, vI l, vI m], .slice p S.length cp, .slice gy.1 gy.2.2.1.length gy.2.1, .slice pz ((xl ++ xk).length) cz, .tuple #[.slice none 0 0, vI 0, vI 1], .tuple #[.slice none 0 0, vI 0, vI 1], .slice none 0 0, vI 0, vI 1, .slice none 0 0, vI 0, vI 1]) (fun gy D wz => HP Tr w8 wz [] ∧ (D 2 = true → (stX gy.2.2.1 = stX S ∧ InS2 wz gy.1 gy.2.2.1))) (none, 0, [], ()) (by kernel_rfl) ⟨rfl, rfl, rfl, rfl, rfl, rfl, rfl, rfl, rfl, rfl, rfl, rfl, rfl, rfl, rfl, rfl, rfl, rfl, rfl, trivial⟩ (by kernel_rfl) (by kernel_rfl) (by kernel_rfl) (fun _ => rfl) (by kernel_rfl) (⟨HP.drew hH70, (fun h => by cases h)⟩) ?_ ?_
        · refine AllOk.cons ?o0 (AllOk.cons ?o1 (AllOk.cons ?o2 (AllOk.cons ?o3 (AllOk.cons ?o4 (AllOk.cons ?o5 (AllOk.cons ?o6 (AllOk.cons ?o7 (AllOk.cons ?o8 (AllOk.cons ?o9 (AllOk.cons ?o10 (AllOk.cons ?o11 (AllOk.nil _))))))))))))
          case o0 =>
            rintro gy D wz hDi hdep hclo ⟨hW, hX0⟩
            exact .inl ⟨rfl, rfl, .inl ⟨gy, wz, fun _ _ => rfl, x_loadS (cs := [vI s, vI y, vI l, vI m]) rfl rfl Try.underlying23 rfl sz23 (HP.oldRange hW trivial (hbox2 0 (by omega))), ⟨hW, hX0⟩⟩⟩
          case o1 =>
            rintro gy D wz hDi hdep hclo ⟨hW, hX0⟩
            exact .inl ⟨rfl, rfl, .inl ⟨gy, wz, fun _ _ => rfl, by kernel_rfl, ⟨hW, hX0⟩⟩⟩
          case o2 =>
            rintro gy D wz hDi hdep hclo ⟨hW, hX0⟩
            have hW2 := hW
            try simp only [hDi, cond_true, cond_false, List.append_nil, List.nil_append, List.cons_append] at hW2
            refine .inl ⟨rfl, rfl, .inr (.inr ⟨11, #[.slice p S.length cp], by kernel_rfl, (own3_any p S cp _ (hS.below (HP.below hW2))).mono ?_⟩)⟩
            rintro e w3 ⟨pu, cu, S6, rfl, hXo, hIo, hbo⟩
            have hA := HP.call hW2 hbo
            refine ⟨⟨pu, cu, S6, ()⟩, fun j hj => ?_, rfl, ⟨?_, fun _ => ⟨hXo, hIo⟩⟩⟩
            · match j, hj with
              | 0, hj => rfl
              | 1, hj => rfl
              | 2, hj => rw [hDi] at hj; cases hj
              | 3, hj => rfl
              | 4, hj => rfl
              | 5, hj => rfl
              | 6, hj => rfl
              | 7, hj => rfl
              | 8, hj => rfl
              | 9, hj => rfl
              | 10, hj => rfl
              | 11, hj => rfl
              | j + 12, _ => rfl
            · show HP Tr w8 w3 []
              try simp only [cond_true, cond_false, List.append_nil, List.nil_append, List.cons_append]
              exact hA
          case o3 =>
            rintro gy D wz hDi hdep hclo ⟨hW, hX0⟩
            exact .inl ⟨rfl, rfl, .inl ⟨gy, wz, fun _ _ => rfl, by kernel_rfl, ⟨hW, hX0⟩⟩⟩
          case o4 =>
            rintro gy D wz hDi hdep hclo ⟨hW, hX0⟩
            have d2 : D 2 = true := hdep ⟨2, .data⟩ (by simp) rfl
            have hW2 := hW
            try simp only [hDi, cond_true, cond_false, List.append_nil, List.nil_append, List.cons_append] at hW2
            refine .inl ⟨rfl, rfl, .inr (.inr ⟨17, #[.agg #[vI s, vI y, vI l, vI m], .slice gy.1 gy.2.2.1.length gy.2.1, .slice pz ((xl ++ xk).length) cz], by kernel_rfl, (Run_no3 (Run3_any s y l m gy.1 gy.2.2.1 gy.2.1 pz (xl ++ xk) cz _ (hX0 d2).2 (hX0 d2).1 hm0 (hZ.below (HP.below hW2)) (by simp only [List.length_append]; omega)) hr2).mono ?_⟩)⟩
            rintro e w3 ⟨rfl, hbr⟩
            have hA := HP.call hW2 hbr
            refine ⟨⟨gy.1, gy.2.1, gy.2.2.1, ()⟩, fun j hj => ?_, rfl, ⟨?_, fun h9 => ⟨(hX0 h9).1, (hX0 h9).2.below hbr⟩⟩⟩
            · match j, hj with
              | 0, hj => rfl
              | 1, hj => rfl
              | 2, hj => rfl
              | 3, hj => rfl
              | 4, hj => rfl
              | 5, hj => rfl
              | 6, hj => rfl
              | 7, hj => rfl
              | 8, hj => rfl
              | 9, hj => rfl
              | 10, hj => rfl
              | 11, hj => rfl
              | j + 12, _ => rfl
            · show HP Tr w8 w3 []
              try simp only [cond_true, cond_false, List.append_nil, List.nil_append, List.cons_append]
              exact hA
          case o5 =>
            rintro gy D wz hDi hdep hclo ⟨hW, hX0⟩
            exact .inl ⟨rfl, rfl, .inl ⟨gy, wz, fun _ _ => rfl, by kernel_rfl, ⟨hW, hX0⟩⟩⟩
          case o6 =>
            rintro gy D wz hDi hdep hclo ⟨hW, hX0⟩
            exact .inl ⟨rfl, rfl, .inl ⟨gy, wz, fun _ _ => rfl, by kernel_rfl, ⟨hW, hX0⟩⟩⟩
          case o7 =>
            rintro gy D wz hDi hdep hclo ⟨hW, hX0⟩
            exact .inl ⟨rfl, rfl, .inl ⟨gy, wz, fun _ _ => rfl, by kernel_rfl, ⟨hW, hX0⟩⟩⟩
          case o8 =>
            rintro gy D wz hDi hdep hclo ⟨hW, hX0⟩
            exact .inl ⟨rfl, rfl, .inl ⟨gy, wz, fun _ _ => rfl, by kernel_rfl, ⟨hW, hX0⟩⟩⟩
          case o9 =>
            rintro gy D wz hDi hdep hclo ⟨hW, hX0⟩
            exact .inl ⟨rfl, rfl, .inl ⟨gy, wz, fun _ _ => rfl, by kernel_rfl, ⟨hW, hX0⟩⟩⟩
          case o10 =>
            rintro gy D wz hDi hdep hclo ⟨hW, hX0⟩
            exact .inl ⟨rfl, rfl, .inl ⟨gy, wz, fun _ _ => rfl, by kernel_rfl, ⟨hW, hX0⟩⟩⟩
          case o11 =>
            rintro gy D wz hDi hdep hclo ⟨hW, hX0⟩
            exact .inl ⟨rfl, rfl, .inl ⟨gy, wz, fun _ _ => rfl, by kernel_rfl, ⟨hW, hX0⟩⟩⟩
        rintro ⟨pu, cu, S6, gu⟩ D w81 hall ⟨hH82, hX0⟩
        have hO3 := hX0 (hall 2 (by kernel_rfl))
        clear hX0
        clear hall
        refine WQ.sub (l' := [(0, .agg #[vI s, vI y, vI l, vI m]), (1, .slice p S.length cp), (2, .slice pl xl.length cl), (3, .slice pk xk.length ck), (4, vP b4 0), (8, .bool false), (9, .slice none 0 0), (10, vI 0), (11, vI 1), (12, .slice none 0 0), (13, vI 0), (14, vI 1), (15, .slice pz ((xl ++ xk).length) cz), (16, .slice none 0 0), (17, vI 0), (18, vI 1), (27, .bool false), (59, .bool false)]) ⟨rfl, rfl, rfl, rfl, rfl, rfl, rfl, rfl, rfl, rfl, rfl, rfl, rfl, rfl, rfl, rfl, rfl, rfl, trivial⟩ ?_
        have hbw3 := HP.below hH82
        have hbox3 : ∀ i9, i9 < 1 → World.rangeAt w81 b4 i9 [vI s, vI y, vI l, vI m] := fun i9 h9 => HP.oldRange hH82 trivial (hbox2 i9 h9)
        replace hS := hS.below hbw3
        replace hL := hL.below hbw3
        replace hK := hK.below hbw3
        replace hI1 := hI1.below hbw3
        replace hZ := hZ.below hbw3
        have hBk3 := HP.call hBk2 hbw3
        have hH83 : HP Tr w81 w81 [] := HP.refl w81
        refine WQ.then ?_
        refine hK71 _ _ _ ?_
        refine WC.seq fun K84 hK84 => ?_
        refine WC.seq fun K85 hK85 => ?_
        refine WC.region ?_
        refine WL.pure (v := vI 1) 73 rfl (Nat.le_of_ble_eq_true rfl) rfl rfl (by kernel_rfl) ?_
        refine WL.pure (v := .bool false) 74 rfl (Nat.le_of_ble_eq_true rfl) rfl rfl (x_eql rfl rfl rfl (by decide)) ?_
        refine WL.pure (v := .bool false) 75 rfl (Nat.le_of_ble_eq_true rfl) rfl rfl (by kernel_rfl) ?_
        refine WL.pass 76 rfl (Nat.le_of_ble_eq_true rfl) rfl ?_
        refine WL.pass 77 rfl (Nat.le_of_ble_eq_true rfl) rfl ?_
        refine WL.pure (v := .bool false) 78 rfl (Nat.le_of_ble_eq_true rfl) rfl rfl (by kernel_rfl) ?_
        refine WL.nil ?_
        refine WQ.then ?_
        refine hK85 _ _ _ ?_
        refine WC.no rfl ?_
        refine WC.skip ?_
        refine WQ.then ?_
        refine hK84 _ _ _ ?_
        refine WC.seq fun K86 hK86 => ?_
        refine WC.region ?_
        refine WL.call (f := 16) (args := #[]) 102 rfl (Nat.le_of_ble_eq_true rfl) rfl rfl (by kernel_rfl) ?_
        refine (sane_any _).mono ?_
        rintro e w87 ⟨rfl, hb88⟩
        refine ⟨_, rfl, ?_⟩
        have hH89 : HP Tr w81 _ [] := HP.call hH83 hb88
        refine WL.pure (v := .bool true) 8 rfl (Nat.le_of_ble_eq_true rfl) rfl rfl (by kernel_rfl) ?_
        refine WL.nil ?_
        refine WQ.then ?_
        refine hK86 _ _ _ ?_
        refine WC.sub (l' := [(0, .agg #[vI s, vI y, vI l, vI m]), (1, .slice p S.length cp), (2, .slice pl xl.length cl), (3, .slice pk xk.length ck), (4, vP b4 0), (8, .bool true), (9, .slice none 0 0), (10, vI 0), (11, vI 1), (12, .slice none 0 0), (13, vI 0), (14, vI 1), (15, .slice pz ((xl ++ xk).length) cz), (16, .slice none 0 0), (17, vI 0), (18, vI 1), (27, .bool false), (59, .bool false), (78, .bool false)]) ⟨rfl, rfl, rfl, rfl, rfl, rfl, rfl, rfl, rfl, rfl, rfl, rfl, rfl, rfl, rfl, rfl, rfl, rfl, rfl, trivial⟩ ?_
        refine WC.ret ?_
        refine WQ.ret1 8 rfl rfl ?_
        exact ⟨rfl, HP.below (HP.call hBk3 (HP.below hH89))⟩

theorem own : ownKnob Try.prog.godebug = none := by kernel_rfl
theorem laidOut : laidOutB Try.prog = true := by kernel_rfl
theorem cells23 : Try.prog.cellsOf 23 = 4 := by kernel_rfl

set_option maxRecDepth 100000 in
theorem lifted (os : Os) (started : os.Started) (H : Type) (enc : TypeId × Value → H) :
    ReturnsInHanded {} Try.checked os 4 .any (Rows.cacheRunsSpec.pre6 enc Try.prog Try.f4 Rows.cacheRunsRow.domain false) (Rows.cacheRunsSpec.post enc Try.prog Try.f4 false true false false) := by
  refine returnsInHanded_of_change_sized (C := Try.checked) own started (by kernel_rfl) Try.func4
    (ChangeSpec.witness6 (enc := enc) (C := Try.checked) false ⟨#[], #[.agg #[.int .i64 0, .int .i64 0, .int .i64 0, .int .i64 0], .slice none 0 0, .slice none 0 0, .slice none 0 0], []⟩ 8 (by kernel_rfl) (by kernel_rfl) (by kernel_rfl) (by kernel_rfl)) ?_
  intro W base args ds gs before hval0 hW hcnd hsz0 _
  have hval : ∀ (j : Nat) t v, Try.f4.params[j]? = some t → args[j]? = some v → Value.okWide Try.prog W .any base t v := hval0
  have hW' := hW
  obtain ⟨p, q, hA0, hV, rfl, hfz, hnd⟩ := hW
  have hA : DataW.TrodAll enc Try.prog W 0 (fun _ => true) true Try.f4.params.toList args.toList ds p := hA0
  have hsz : (DataW.weightsEach Try.prog (Try.f4.params.toList ++ Rows.cacheRunsSpec.plain.varTypes Try.prog) (ds ++ gs)).all (· ≤ reachBytes) = true := hsz0
  clear hsz0
  rw [Try.params4] at hA hval hsz
  obtain ⟨v0, vs0, d0, ds0, p0, q0, hargs, rfl, rfl, h0, r0⟩ := trodAll_cons hA
  obtain ⟨v1, vs1, d1, ds1, p1, q1, rfl, rfl, rfl, h1, r1⟩ := trodAll_cons r0
  obtain ⟨v2, vs2, d2, ds2, p2, q2, rfl, rfl, rfl, h2, r2⟩ := trodAll_cons r1
  obtain ⟨v3, vs3, d3, ds3, p3, q3, rfl, rfl, rfl, h3, r3⟩ := trodAll_cons r2
  obtain ⟨rfl, rfl, rfl⟩ := trodAll_nil r3
  obtain rfl : args = #[v0, v1, v2, v3] := by cases args; simp_all
  obtain ⟨rfl, rfl⟩ := trodVars_none hV
  have k0 := h0
  have lt0 : ∀ x ∈ p0, x.block < W.heap.size := by obtain ⟨m, hm⟩ := k0; exact DataW.trod_lt m _ _ _ hm
  obtain ⟨c0_0, c0_1, c0_2, c0_3, y0_0, y0_1, y0_2, y0_3, m0, rfl, hd0, hp0, hy0_0, hy0_1, hy0_2, hy0_3⟩ := open_agg4 Try.underlying23 (by kernel_rfl) cells23 (hval 0 23 v0 rfl rfl) h0
  obtain ⟨a0_0, e0_0, -, w0_0⟩ := DataW.trod_int Try.underlying3 hy0_0
  simp at e0_0
  subst e0_0
  obtain ⟨a0_1, e0_1, -, w0_1⟩ := DataW.trod_int Try.underlying3 hy0_1
  simp at e0_1
  subst e0_1
  obtain ⟨a0_2, e0_2, -, w0_2⟩ := DataW.trod_int Try.underlying3 hy0_2
  simp at e0_2
  subst e0_2
  obtain ⟨a0_3, e0_3, -, w0_3⟩ := DataW.trod_int Try.underlying3 hy0_3
  simp at e0_3
  subst e0_3
  clear hd0 hp0
  have k1 := h1
  have lt1 : ∀ x ∈ p1, x.block < W.heap.size := by obtain ⟨m, hm⟩ := k1; exact DataW.trod_lt m _ _ _ hm
  obtain ⟨b1, n1, cap1, rfl⟩ := okWide_slice Try.underlying24 (hval 1 24 v1 rfl rfl)
  obtain ⟨S1, rfl, hS1⟩ := rowsS h1 (fun el sp he => ⟨sized_slice hsz (j := 1) (t := 24) rfl (by rw [he]; rfl) Try.underlying24, fun e1 sp1 hx => sized_inner hsz (j := 1) (t := 24) rfl (by rw [he]; rfl) Try.underlying24 Try.underlying33 hx⟩)
  have k2 := h2
  have lt2 : ∀ x ∈ p2, x.block < W.heap.size := by obtain ⟨m, hm⟩ := k2; exact DataW.trod_lt m _ _ _ hm
  obtain ⟨b2, n2, cap2, rfl⟩ := okWide_slice Try.underlying33 (hval 2 33 v2 rfl rfl)
  obtain ⟨S2, rfl, hS2⟩ := rowsI8 h2 (fun el sp he => sized_slice hsz (j := 2) (t := 33) rfl (by rw [he]; rfl) Try.underlying33)
  have k3 := h3
  have lt3 : ∀ x ∈ p3, x.block < W.heap.size := by obtain ⟨m, hm⟩ := k3; exact DataW.trod_lt m _ _ _ hm
  obtain ⟨b3, n3, cap3, rfl⟩ := okWide_slice Try.underlying33 (hval 3 33 v3 rfl rfl)
  obtain ⟨S3, rfl, hS3⟩ := rowsI8 h3 (fun el sp he => sized_slice hsz (j := 3) (t := 33) rfl (by rw [he]; rfl) Try.underlying33)
  clear hA0 hval0
  refine (walk a0_0 a0_1 a0_2 a0_3 b1 cap1 S1 b2 cap2 S2 b3 cap3 S3 W w0_0 w0_1 w0_2 w0_3 hS1 hS2 hS3).mono fun e W' ⟨he, bel⟩ => ?_
  subst he
  exact ⟨_, rfl, _, _, _, [], _, [], hW', trodAll_mk1 (shut_bool Try.underlying4 _), (trodAll_cons_mk (Below.trod laidOut (by kernel_rfl) (of_decide_eq_true (by kernel_rfl)) k0 bel lt0) (trodAll_cons_mk (Below.trod laidOut (by kernel_rfl) (of_decide_eq_true (by kernel_rfl)) k1 bel lt1) (trodAll_cons_mk (Below.trod laidOut (by kernel_rfl) (of_decide_eq_true (by kernel_rfl)) k2 bel lt2) (trodAll_cons_mk (Below.trod laidOut (by kernel_rfl) (of_decide_eq_true (by kernel_rfl)) k3 bel lt3) trodAll_mk0)))), rfl, bel.frame _, fun h => by cases h⟩

theorem over : Rows.cacheRunsRow.holds Try.pinned (OpenSpec.ofChange Rows.cacheRunsSpec) :=
  OpenClaim.holds_of_wide 4 Try.f4 rfl rfl rfl rfl rfl rfl rfl ⟨rfl, rfl, rfl, rfl, rfl⟩ rfl rfl rfl rfl rfl (by kernel_rfl) Try.func4 (by kernel_rfl)
    (of_decide_eq_true (by kernel_rfl)) (by unfold Func.isWrapper; first | (rw [if_pos (by decide +kernel)]; kernel_rfl) | (rw [if_neg (by decide +kernel)]; exact ⟨rfl, rfl⟩))
    (fun os started H enc _ => lifted os started H enc)

/-- the statement -/
theorem proved : Rows.CacheRunsSaid := over
end Go.Proofs.Ytmjnakhpekbenaa.cacheRuns
