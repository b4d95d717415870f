/-
  The statement TopSlots: for every supply, window, moment and number of ticks the law returns true.
  Conditions: none beyond those of the given row.
-/
import Derived.Test.YthiogahpoebamaaRows
import Derived.Test.YthiogahpoebamaaGC
import Derived.ProofKit
import Derived.OpenShut
import Derived.ShutString
import Derived.ChangeOld
import Derived.Lib.SmallJoins
set_option linter.unusedVariables false
set_option linter.unusedSimpArgs false
namespace Go.Proofs.Ythiogahpoebamaa.topSlots
open Go.ChangeShapes Go.WideShapes Go.ChangeAt Go.RowKit Go.Joins
open Go.ChangeMaps (open_string shut_string)
open Sup Bu Fw

theorem sz23 : (Try.prog.info? 23).map (·.size) = some 2 := by kernel_rfl
theorem LR_of {S : Nat → Prop} {w0 w : World} {H : List Ent} (hH : HP S w0 w H) (i : Nat) {l s t : Nat} (hi : H[i]? = some (.cel l #[vI 0, vI (s : Int), vI 1, vI (t : Int)] 44)) : LR w l 0 s t := fun q hq => by
  match q, hq with
  | 0, _ => exact hH.range i hi rfl
  | 1, _ => exact hH.range i hi rfl
set_option maxRecDepth 20000 in
set_option maxHeartbeats 4000000 in
theorem saneA_any (w : World) :
    Calls Try.prog 43 #[] w fun e w' => e = .returned (.bool true) ∧ Below w.heap.size w w' := by
  refine calls_of Try.func43 rfl (m := 31) rfl [] (Fr_enter [] 31 (Nat.le_of_ble_eq_true rfl)) ?_
  have hH1 : HP Tr w w [] := HP.refl w
  refine WC.seq fun K2 hK2 => ?_
  refine WC.region ?_
  refine WL.pure (v := .bool false) 0 rfl (Nat.le_of_ble_eq_true rfl) rfl rfl (by kernel_rfl) ?_
  refine WL.nil ?_
  refine WQ.then ?_
  refine hK2 _ _ _ ?_
  refine WC.seq fun K3 hK3 => ?_
  refine WC.region ?_
  refine WL.pure (v := .agg #[vI 10, vI 3]) 6 rfl (Nat.le_of_ble_eq_true rfl) rfl rfl (by kernel_rfl) ?_
  have q1 := least_ok 10 3 13
  rw [show ah 10 3 13 = 7 by decide] at q1
  refine WL.call (f := 17) (args := #[.agg #[vI 10, vI 3], vI 13]) 7 rfl (Nat.le_of_ble_eq_true rfl) rfl rfl (by kernel_rfl) ?_
  refine (q1 _ (by decide) (by omega) (by omega)).mono ?_
  rintro e w4 ⟨rfl, hb5⟩
  refine ⟨_, rfl, ?_⟩
  have hH6 : HP Tr w _ [] := HP.call hH1 hb5
  refine WL.pure (v := .tuple #[vI 7, vI 0]) 5 rfl (Nat.le_of_ble_eq_true rfl) rfl rfl (by kernel_rfl) ?_
  refine WL.pure (v := vI 7) 8 rfl (Nat.le_of_ble_eq_true rfl) rfl rfl (by kernel_rfl) ?_
  refine WL.pure (v := vI 0) 9 rfl (Nat.le_of_ble_eq_true rfl) rfl rfl (by kernel_rfl) ?_
  refine WL.pure (v := vI 7) 1 rfl (Nat.le_of_ble_eq_true rfl) rfl rfl (by kernel_rfl) ?_
  refine WL.pure (v := vI 0) 2 rfl (Nat.le_of_ble_eq_true rfl) rfl rfl (by kernel_rfl) ?_
  refine WL.nil ?_
  refine WQ.then ?_
  refine hK3 _ _ _ ?_
  refine WC.seq fun K7 hK7 => ?_
  refine WC.region ?_
  refine WL.pure (v := .agg #[vI 0, vI 3]) 11 rfl (Nat.le_of_ble_eq_true rfl) rfl rfl (by kernel_rfl) ?_
  refine WL.pure (v := .agg #[vI 1, vI 7]) 12 rfl (Nat.le_of_ble_eq_true rfl) rfl rfl (by kernel_rfl) ?_
  refine WL.alloc (c := #[vI 0, vI 3, vI 1, vI 7]) (T := 44) hH6 13 rfl (by decide) rfl rfl (fun b8 => vS b8 2 2) (by kernel_rfl) (fun b8 w9 hw9 => ?_)
  have hH10 : HP Tr w w9 [.cel b8 #[vI 0, vI 3, vI 1, vI 7] 44] := hw9.2
  have nb8 := hw9.1
  clear hw9
  refine WL.call (f := 44) (args := #[vS b8 2 2, vI 1, vI 13]) 14 rfl (Nat.le_of_ble_eq_true rfl) rfl rfl (by kernel_rfl) ?_
  refine (bleast1_any _ _ 3 7 13 _ (LR_of (s := 3) (t := 7) hH10 0 rfl) (by omega) (by omega) (by omega) (by omega)).mono ?_
  rintro e w9 ⟨j, hj, rfl, hb9⟩
  obtain rfl : j = 9 := by omega
  have q2 := least_eq 10 3 13 9 (by omega) (by omega) (by omega)
  rw [show ah 10 3 13 = 7 by decide] at q2
  refine ⟨_, rfl, ?_⟩
  have q3 : mn (fun x => ad ((3 + 7 : Nat) : Int) ((3 : Nat) : Int) ((7 : Nat) : Int) (x + 13) - ad ((3 + 7 : Nat) : Int) ((3 : Nat) : Int) ((7 : Nat) : Int) x) 9 = 7 := q2
  rw [q3]
  have hH11 : HP Tr w _ [.cel b8 #[vI 0, vI 3, vI 1, vI 7] 44] := HP.call hH10 hb9
  refine WL.pure (v := .tuple #[vI 7, vI 0]) 10 rfl (Nat.le_of_ble_eq_true rfl) rfl rfl (by kernel_rfl) ?_
  refine WL.pure (v := vI 7) 15 rfl (Nat.le_of_ble_eq_true rfl) rfl rfl (by kernel_rfl) ?_
  refine WL.pure (v := vI 0) 16 rfl (Nat.le_of_ble_eq_true rfl) rfl rfl (by kernel_rfl) ?_
  refine WL.pure (v := vI 7) 3 rfl (Nat.le_of_ble_eq_true rfl) rfl rfl (by kernel_rfl) ?_
  refine WL.pure (v := vI 0) 4 rfl (Nat.le_of_ble_eq_true rfl) rfl rfl (by kernel_rfl) ?_
  refine WL.nil ?_
  refine WQ.then ?_
  refine hK7 _ _ _ ?_
  refine WC.sub (l' := [(0, .bool false), (1, vI 7), (2, vI 0), (3, vI 7), (4, vI 0)]) ⟨rfl, rfl, rfl, rfl, rfl, trivial⟩ ?_
  refine WC.seq fun K12 hK12 => ?_
  refine WC.region ?_
  refine WL.pure (v := vI 7) 17 rfl (Nat.le_of_ble_eq_true rfl) rfl rfl (by kernel_rfl) ?_
  refine WL.pure (v := .bool true) 18 rfl (Nat.le_of_ble_eq_true rfl) rfl rfl (x_eql rfl rfl rfl (by decide)) ?_
  refine WL.pure (v := .bool true) 19 rfl (Nat.le_of_ble_eq_true rfl) rfl rfl (by kernel_rfl) ?_
  refine WL.pure (v := vI 0) 20 rfl (Nat.le_of_ble_eq_true rfl) rfl rfl (by kernel_rfl) ?_
  refine WL.pure (v := .bool true) 21 rfl (Nat.le_of_ble_eq_true rfl) rfl rfl (x_eql rfl rfl rfl (by decide)) ?_
  refine WL.pure (v := .bool true) 22 rfl (Nat.le_of_ble_eq_true rfl) rfl rfl (by kernel_rfl) ?_
  refine WL.pure (v := .bool true) 23 rfl (Nat.le_of_ble_eq_true rfl) rfl rfl (by kernel_rfl) ?_
  refine WL.pure (v := vI 7) 24 rfl (Nat.le_of_ble_eq_true rfl) rfl rfl (by kernel_rfl) ?_
  refine WL.pure (v := .bool true) 25 rfl (Nat.le_of_ble_eq_true rfl) rfl rfl (x_eql rfl rfl rfl (by decide)) ?_
  refine WL.pure (v := .bool true) 26 rfl (Nat.le_of_ble_eq_true rfl) rfl rfl (by kernel_rfl) ?_
  refine WL.pure (v := .bool true) 27 rfl (Nat.le_of_ble_eq_true rfl) rfl rfl (by kernel_rfl) ?_
  refine WL.pure (v := vI 0) 28 rfl (Nat.le_of_ble_eq_true rfl) rfl rfl (by kernel_rfl) ?_
  refine WL.pure (v := .bool true) 29 rfl (Nat.le_of_ble_eq_true rfl) rfl rfl (x_eql rfl rfl rfl (by decide)) ?_
  refine WL.pure (v := .bool true) 30 rfl (Nat.le_of_ble_eq_true rfl) rfl rfl (by kernel_rfl) ?_
  refine WL.pure (v := .bool true) 0 rfl (Nat.le_of_ble_eq_true rfl) rfl rfl (by kernel_rfl) ?_
  refine WL.nil ?_
  refine WQ.then ?_
  refine hK12 _ _ _ ?_
  refine WC.sub (l' := [(0, .bool true), (1, vI 7), (2, vI 0), (3, vI 7), (4, vI 0)]) ⟨rfl, rfl, rfl, rfl, rfl, trivial⟩ ?_
  refine WC.ret ?_
  refine WQ.ret1 0 rfl rfl ?_
  exact ⟨rfl, HP.below hH11⟩
set_option maxRecDepth 20000 in
set_option maxHeartbeats 4000000 in
theorem walk (a0 a1 W m n : Int) (w : World) (w0 : (Lit.int .i64 a0).wf = true) (w1 : (Lit.int .i64 a1).wf = true) (w2 : (Lit.int .i64 W).wf = true) (w3 : (Lit.int .i64 m).wf = true) (w4 : (Lit.int .i64 n).wf = true) :
    Calls Try.prog 14 #[.agg #[vI a0, vI a1], vI W, vI m, vI n] w fun e w' => e = .returned (.bool true) ∧ Below w.heap.size w w' := by
  refine calls_of Try.func14 rfl (m := 212) rfl [(0, .agg #[vI a0, vI a1]), (1, vI W), (2, vI m), (3, vI n)] (Fr_enter [.agg #[vI a0, vI a1], vI W, vI m, vI n] 212 (Nat.le_of_ble_eq_true rfl)) ?_
  have hH1 : HP Tr w w [] := HP.refl w
  refine WC.seq fun K2 hK2 => ?_
  refine WC.region ?_
  refine WL.alloc (c := #[vI a0, vI a1]) (T := 23) hH1 4 rfl (by decide) rfl rfl (fun b3 => vP b3 0) (by kernel_rfl) (fun b3 w4 hw4 => ?_)
  have hH5 : HP Tr w w4 [.cel b3 #[vI a0, vI a1] 23] := hw4.2
  have nb3 := hw4.1
  clear hw4
  refine WL.pure (v := .bool false) 8 rfl (Nat.le_of_ble_eq_true rfl) rfl rfl (by kernel_rfl) ?_
  refine WL.nil ?_
  refine WQ.then ?_
  refine hK2 _ _ _ ?_
  refine WC.seq fun K6 hK6 => ?_
  refine WC.seq fun K7 hK7 => ?_
  refine WC.region ?_
  refine WL.pure (v := .agg #[vI a0, vI a1]) 31 rfl (Nat.le_of_ble_eq_true rfl) rfl rfl (x_loadS (cs := [vI a0, vI a1]) rfl rfl Try.underlying23 rfl sz23 (HP.range hH5 0 rfl rfl)) ?_
  rcases Bool.eq_false_or_eq_true (vld a0 a1) with hv | hv
  ·
    have q := valid_any a0 a1
    rw [hv] at q
    refine WL.call (f := 23) (args := #[.agg #[vI a0, vI a1]]) 32 rfl (Nat.le_of_ble_eq_true rfl) rfl rfl (by kernel_rfl) ?_
    refine (q _).mono ?_
    rintro e w8 ⟨rfl, hb9⟩
    refine ⟨_, rfl, ?_⟩
    have hH10 : HP Tr w _ [.cel b3 #[vI a0, vI a1] 23] := HP.call hH5 hb9
    refine WL.pure (v := .bool false) 33 rfl (Nat.le_of_ble_eq_true rfl) rfl rfl (by kernel_rfl) ?_
    refine WL.pure (v := .bool false) 34 rfl (Nat.le_of_ble_eq_true rfl) rfl rfl (by kernel_rfl) ?_
    refine WL.pure (v := vP b3 1) 35 rfl (Nat.le_of_ble_eq_true rfl) rfl rfl (by kernel_rfl) ?_
    refine WL.pure (v := vI a1) 36 rfl (Nat.le_of_ble_eq_true rfl) rfl rfl (x_load rfl rfl Try.underlying3 rfl (HP.cell hH10 0 rfl rfl)) ?_
    by_cases hs1 : a1 < 1
    ·
      refine WL.pure (v := .bool true) 37 rfl (Nat.le_of_ble_eq_true rfl) rfl rfl (x_lss rfl rfl rfl (dT (hs1))) ?_
      refine WL.pure (v := .bool true) 38 rfl (Nat.le_of_ble_eq_true rfl) rfl rfl (by kernel_rfl) ?_
      refine WL.pure (v := .bool true) 39 rfl (Nat.le_of_ble_eq_true rfl) rfl rfl (by kernel_rfl) ?_
      refine WL.pass 40 rfl (Nat.le_of_ble_eq_true rfl) rfl ?_
      refine WL.pass 41 rfl (Nat.le_of_ble_eq_true rfl) rfl ?_
      refine WL.pass 42 rfl (Nat.le_of_ble_eq_true rfl) rfl ?_
      refine WL.pure (v := .bool true) 43 rfl (Nat.le_of_ble_eq_true rfl) rfl rfl (by kernel_rfl) ?_
      refine WL.pure (v := .bool true) 44 rfl (Nat.le_of_ble_eq_true rfl) rfl rfl (by kernel_rfl) ?_
      refine WL.pass 45 rfl (Nat.le_of_ble_eq_true rfl) rfl ?_
      refine WL.pass 46 rfl (Nat.le_of_ble_eq_true rfl) rfl ?_
      refine WL.pass 47 rfl (Nat.le_of_ble_eq_true rfl) rfl ?_
      refine WL.pass 48 rfl (Nat.le_of_ble_eq_true rfl) rfl ?_
      refine WL.pass 49 rfl (Nat.le_of_ble_eq_true rfl) rfl ?_
      refine WL.pass 50 rfl (Nat.le_of_ble_eq_true rfl) rfl ?_
      refine WL.pure (v := .bool true) 51 rfl (Nat.le_of_ble_eq_true rfl) rfl rfl (by kernel_rfl) ?_
      refine WL.nil ?_
      refine WQ.then ?_
      refine hK7 _ _ _ ?_
      refine WC.sub (l' := [(0, .agg #[vI a0, vI a1]), (1, vI W), (2, vI m), (3, vI n), (4, vP b3 0), (8, .bool false), (51, .bool true)]) ⟨rfl, rfl, rfl, rfl, rfl, rfl, rfl, trivial⟩ ?_
      refine WC.yes rfl ?_
      refine WC.seq fun K11 hK11 => ?_
      refine WC.region ?_
      refine WL.call (f := 43) (args := #[]) 52 rfl (Nat.le_of_ble_eq_true rfl) rfl rfl (by kernel_rfl) ?_
      refine (saneA_any _).mono ?_
      rintro e w12 ⟨rfl, hb13⟩
      refine ⟨_, rfl, ?_⟩
      have hH14 : HP Tr w _ [.cel b3 #[vI a0, vI a1] 23] := HP.call hH10 hb13
      refine WL.pure (v := .bool true) 8 rfl (Nat.le_of_ble_eq_true rfl) rfl rfl (by kernel_rfl) ?_
      refine WL.nil ?_
      refine WQ.then ?_
      refine hK11 _ _ _ ?_
      refine WC.ret ?_
      refine WQ.thenRet ?_
      refine WQ.ret1 8 rfl rfl ?_
      exact ⟨rfl, HP.below hH14⟩
    ·
      refine WL.pure (v := .bool false) 37 rfl (Nat.le_of_ble_eq_true rfl) rfl rfl (x_lss rfl rfl rfl (dF (hs1))) ?_
      refine WL.pure (v := .bool false) 38 rfl (Nat.le_of_ble_eq_true rfl) rfl rfl (by kernel_rfl) ?_
      refine WL.pure (v := .bool false) 39 rfl (Nat.le_of_ble_eq_true rfl) rfl rfl (by kernel_rfl) ?_
      refine WL.pure (v := vP b3 1) 40 rfl (Nat.le_of_ble_eq_true rfl) rfl rfl (by kernel_rfl) ?_
      refine WL.pure (v := vI a1) 41 rfl (Nat.le_of_ble_eq_true rfl) rfl rfl (x_load rfl rfl Try.underlying3 rfl (HP.cell hH10 0 rfl rfl)) ?_
      by_cases hs2 : (50 : Int) < a1
      ·
        refine WL.pure (v := .bool true) 42 rfl (Nat.le_of_ble_eq_true rfl) rfl rfl (x_gtr rfl rfl rfl (dT (hs2))) ?_
        refine WL.pure (v := .bool true) 43 rfl (Nat.le_of_ble_eq_true rfl) rfl rfl (by kernel_rfl) ?_
        refine WL.pure (v := .bool true) 44 rfl (Nat.le_of_ble_eq_true rfl) rfl rfl (by kernel_rfl) ?_
        refine WL.pass 45 rfl (Nat.le_of_ble_eq_true rfl) rfl ?_
        refine WL.pass 46 rfl (Nat.le_of_ble_eq_true rfl) rfl ?_
        refine WL.pass 47 rfl (Nat.le_of_ble_eq_true rfl) rfl ?_
        refine WL.pass 48 rfl (Nat.le_of_ble_eq_true rfl) rfl ?_
        refine WL.pass 49 rfl (Nat.le_of_ble_eq_true rfl) rfl ?_
        refine WL.pass 50 rfl (Nat.le_of_ble_eq_true rfl) rfl ?_
        refine WL.pure (v := .bool true) 51 rfl (Nat.le_of_ble_eq_true rfl) rfl rfl (by kernel_rfl) ?_
        refine WL.nil ?_
        refine WQ.then ?_
        refine hK7 _ _ _ ?_
        refine WC.sub (l' := [(0, .agg #[vI a0, vI a1]), (1, vI W), (2, vI m), (3, vI n), (4, vP b3 0), (8, .bool false), (51, .bool true)]) ⟨rfl, rfl, rfl, rfl, rfl, rfl, rfl, trivial⟩ ?_
        refine WC.yes rfl ?_
        refine WC.seq fun K15 hK15 => ?_
        refine WC.region ?_
        refine WL.call (f := 43) (args := #[]) 52 rfl (Nat.le_of_ble_eq_true rfl) rfl rfl (by kernel_rfl) ?_
        refine (saneA_any _).mono ?_
        rintro e w16 ⟨rfl, hb17⟩
        refine ⟨_, rfl, ?_⟩
        have hH18 : HP Tr w _ [.cel b3 #[vI a0, vI a1] 23] := HP.call hH10 hb17
        refine WL.pure (v := .bool true) 8 rfl (Nat.le_of_ble_eq_true rfl) rfl rfl (by kernel_rfl) ?_
        refine WL.nil ?_
        refine WQ.then ?_
        refine hK15 _ _ _ ?_
        refine WC.ret ?_
        refine WQ.thenRet ?_
        refine WQ.ret1 8 rfl rfl ?_
        exact ⟨rfl, HP.below hH18⟩
      ·
        refine WL.pure (v := .bool false) 42 rfl (Nat.le_of_ble_eq_true rfl) rfl rfl (x_gtr rfl rfl rfl (dF (hs2))) ?_
        refine WL.pure (v := .bool false) 43 rfl (Nat.le_of_ble_eq_true rfl) rfl rfl (by kernel_rfl) ?_
        refine WL.pure (v := .bool false) 44 rfl (Nat.le_of_ble_eq_true rfl) rfl rfl (by kernel_rfl) ?_
        refine WL.pure (v := vP b3 0) 45 rfl (Nat.le_of_ble_eq_true rfl) rfl rfl (by kernel_rfl) ?_
        refine WL.pure (v := vI a0) 46 rfl (Nat.le_of_ble_eq_true rfl) rfl rfl (x_load rfl rfl Try.underlying3 rfl (HP.cell hH10 0 rfl rfl)) ?_
        refine WL.pure (v := vP b3 1) 47 rfl (Nat.le_of_ble_eq_true rfl) rfl rfl (by kernel_rfl) ?_
        refine WL.pure (v := vI a1) 48 rfl (Nat.le_of_ble_eq_true rfl) rfl rfl (x_load rfl rfl Try.underlying3 rfl (HP.cell hH10 0 rfl rfl)) ?_
        have hvv := vld_t hv
        refine WL.pure (v := vI (a0 - a1)) 49 rfl (Nat.le_of_ble_eq_true rfl) rfl rfl (x_sub (Z := a0 - a1) rfl rfl rfl (by omega) (by omega) (by omega)) ?_
        by_cases hs3 : (50 : Int) < a0 - a1
        ·
          refine WL.pure (v := .bool true) 50 rfl (Nat.le_of_ble_eq_true rfl) rfl rfl (x_gtr rfl rfl rfl (dT (hs3))) ?_
          refine WL.pure (v := .bool true) 51 rfl (Nat.le_of_ble_eq_true rfl) rfl rfl (by kernel_rfl) ?_
          refine WL.nil ?_
          refine WQ.then ?_
          refine hK7 _ _ _ ?_
          refine WC.sub (l' := [(0, .agg #[vI a0, vI a1]), (1, vI W), (2, vI m), (3, vI n), (4, vP b3 0), (8, .bool false), (51, .bool true)]) ⟨rfl, rfl, rfl, rfl, rfl, rfl, rfl, trivial⟩ ?_
          refine WC.yes rfl ?_
          refine WC.seq fun K19 hK19 => ?_
          refine WC.region ?_
          refine WL.call (f := 43) (args := #[]) 52 rfl (Nat.le_of_ble_eq_true rfl) rfl rfl (by kernel_rfl) ?_
          refine (saneA_any _).mono ?_
          rintro e w20 ⟨rfl, hb21⟩
          refine ⟨_, rfl, ?_⟩
          have hH22 : HP Tr w _ [.cel b3 #[vI a0, vI a1] 23] := HP.call hH10 hb21
          refine WL.pure (v := .bool true) 8 rfl (Nat.le_of_ble_eq_true rfl) rfl rfl (by kernel_rfl) ?_
          refine WL.nil ?_
          refine WQ.then ?_
          refine hK19 _ _ _ ?_
          refine WC.ret ?_
          refine WQ.thenRet ?_
          refine WQ.ret1 8 rfl rfl ?_
          exact ⟨rfl, HP.below hH22⟩
        ·
          refine WL.pure (v := .bool false) 50 rfl (Nat.le_of_ble_eq_true rfl) rfl rfl (x_gtr rfl rfl rfl (dF (hs3))) ?_
          refine WL.pure (v := .bool false) 51 rfl (Nat.le_of_ble_eq_true rfl) rfl rfl (by kernel_rfl) ?_
          refine WL.nil ?_
          refine WQ.then ?_
          refine hK7 _ _ _ ?_
          refine WC.sub (l' := [(0, .agg #[vI a0, vI a1]), (1, vI W), (2, vI m), (3, vI n), (4, vP b3 0), (8, .bool false), (51, .bool false)]) ⟨rfl, rfl, rfl, rfl, rfl, rfl, rfl, trivial⟩ ?_
          refine WC.no rfl ?_
          refine WC.skip ?_
          refine WQ.then ?_
          refine hK6 _ _ _ ?_
          refine WC.seq fun K23 hK23 => ?_
          obtain ⟨v1, v2, v3, v4⟩ := vld_t hv
          obtain ⟨s, rfl⟩ : ∃ s : Nat, a1 = (s : Int) := ⟨a1.toNat, by omega⟩
          obtain ⟨t, ht0⟩ : ∃ t : Nat, a0 - (s : Int) = (t : Int) := ⟨(a0 - (s : Int)).toNat, by omega⟩
          obtain rfl : a0 = ((s + t : Nat) : Int) := by omega
          have hs : 1 ≤ s ∧ s ≤ 50 := by omega
          have ht : 1 ≤ t ∧ t ≤ 50 := by omega
          have hH24 : HP Tr w _ [.cel b3 #[vI ((s + t : Nat) : Int), vI (s : Int)] 23] := hH10
          refine WC.region ?_
          refine WL.pure (v := vP b3 1) 53 rfl (Nat.le_of_ble_eq_true rfl) rfl rfl (by kernel_rfl) ?_
          refine WL.pure (v := vI (s : Int)) 54 rfl (Nat.le_of_ble_eq_true rfl) rfl rfl (x_load rfl rfl Try.underlying3 rfl (HP.cell hH24 0 rfl rfl)) ?_
          refine WL.pure (v := .agg #[vI 0, vI (s : Int)]) 55 rfl (Nat.le_of_ble_eq_true rfl) rfl rfl (by kernel_rfl) ?_
          refine WL.pure (v := vP b3 0) 56 rfl (Nat.le_of_ble_eq_true rfl) rfl rfl (by kernel_rfl) ?_
          refine WL.pure (v := vI ((s + t : Nat) : Int)) 57 rfl (Nat.le_of_ble_eq_true rfl) rfl rfl (x_load rfl rfl Try.underlying3 rfl (HP.cell hH24 0 rfl rfl)) ?_
          refine WL.pure (v := vP b3 1) 58 rfl (Nat.le_of_ble_eq_true rfl) rfl rfl (by kernel_rfl) ?_
          refine WL.pure (v := vI (s : Int)) 59 rfl (Nat.le_of_ble_eq_true rfl) rfl rfl (x_load rfl rfl Try.underlying3 rfl (HP.cell hH24 0 rfl rfl)) ?_
          refine WL.pure (v := vI (t : Int)) 60 rfl (Nat.le_of_ble_eq_true rfl) rfl rfl (x_sub (Z := (t : Int)) rfl rfl rfl (by omega) (by omega) (by omega)) ?_
          refine WL.pure (v := .agg #[vI 1, vI (t : Int)]) 61 rfl (Nat.le_of_ble_eq_true rfl) rfl rfl (by kernel_rfl) ?_
          refine WL.alloc (c := #[vI 0, vI (s : Int), vI 1, vI (t : Int)]) (T := 44) hH24 62 rfl (by decide) rfl rfl (fun bl => vS bl 2 2) (by kernel_rfl) (fun bl w25 hw25 => ?_)
          have hH26 : HP Tr w w25 [.cel b3 #[vI ((s + t : Nat) : Int), vI (s : Int)] 23, .cel bl #[vI 0, vI (s : Int), vI 1, vI (t : Int)] 44] := hw25.2
          have nbl := hw25.1
          clear hw25
          refine WL.pure (v := vS bl 2 2) 9 rfl (Nat.le_of_ble_eq_true rfl) rfl rfl (by kernel_rfl) ?_
          refine WL.nil ?_
          refine WQ.then ?_
          refine hK23 _ _ _ ?_
          refine WC.sub (l' := [(0, .agg #[vI ((s + t : Nat) : Int), vI (s : Int)]), (1, vI W), (2, vI m), (3, vI n), (4, vP b3 0), (8, .bool false), (9, vS bl 2 2), (51, .bool false)]) ⟨rfl, rfl, rfl, rfl, rfl, rfl, rfl, rfl, trivial⟩ ?_
          refine WC.seq fun K27 hK27 => ?_
          refine WC.seq fun K28 hK28 => ?_
          refine WC.region ?_
          refine WL.pure (v := vI W) 63 rfl (Nat.le_of_ble_eq_true rfl) rfl rfl (by kernel_rfl) ?_
          by_cases hw0 : (0 : Int) ≤ W
          ·
            refine WL.pure (v := .bool true) 64 rfl (Nat.le_of_ble_eq_true rfl) rfl rfl (x_geq rfl rfl rfl (dT (hw0))) ?_
            refine WL.pure (v := .bool true) 65 rfl (Nat.le_of_ble_eq_true rfl) rfl rfl (by kernel_rfl) ?_
            refine WL.pure (v := vI W) 66 rfl (Nat.le_of_ble_eq_true rfl) rfl rfl (by kernel_rfl) ?_
            by_cases hw1 : W ≤ 10000
            ·
              refine WL.pure (v := .bool true) 67 rfl (Nat.le_of_ble_eq_true rfl) rfl rfl (x_leq rfl rfl rfl (dT (hw1))) ?_
              refine WL.pure (v := .bool true) 68 rfl (Nat.le_of_ble_eq_true rfl) rfl rfl (by kernel_rfl) ?_
              refine WL.nil ?_
              refine WQ.then ?_
              refine hK28 _ _ _ ?_
              refine WC.yes rfl ?_
              refine WC.seq fun K29 hK29 => ?_
              refine WC.region ?_
              refine WL.pure (v := .agg #[vI ((s + t : Nat) : Int), vI (s : Int)]) 70 rfl (Nat.le_of_ble_eq_true rfl) rfl rfl (x_loadS (cs := [vI ((s + t : Nat) : Int), vI (s : Int)]) rfl rfl Try.underlying23 rfl sz23 (HP.range hH26 0 rfl rfl)) ?_
              refine WL.pure (v := vI W) 71 rfl (Nat.le_of_ble_eq_true rfl) rfl rfl (by kernel_rfl) ?_
              refine WL.call (f := 17) (args := #[.agg #[vI ((s + t : Nat) : Int), vI (s : Int)], vI W]) 72 rfl (Nat.le_of_ble_eq_true rfl) rfl rfl (by kernel_rfl) ?_
              refine (least_ok ((s + t : Nat) : Int) (s : Int) W _ hv (by omega) (by omega)).mono ?_
              rintro e w30 ⟨rfl, hb31⟩
              refine ⟨_, rfl, ?_⟩
              have hH32 : HP Tr w _ [.cel b3 #[vI ((s + t : Nat) : Int), vI (s : Int)] 23, .cel bl #[vI 0, vI (s : Int), vI 1, vI (t : Int)] 44] := HP.call hH26 hb31
              refine WL.pure (v := .tuple #[vI (ah ((s + t : Nat) : Int) (s : Int) W), vI 0]) 69 rfl (Nat.le_of_ble_eq_true rfl) rfl rfl (by kernel_rfl) ?_
              refine WL.pure (v := vI (ah ((s + t : Nat) : Int) (s : Int) W)) 73 rfl (Nat.le_of_ble_eq_true rfl) rfl rfl (by kernel_rfl) ?_
              refine WL.pure (v := vI 0) 74 rfl (Nat.le_of_ble_eq_true rfl) rfl rfl (by kernel_rfl) ?_
              refine WL.pure (v := vI (ah ((s + t : Nat) : Int) (s : Int) W)) 10 rfl (Nat.le_of_ble_eq_true rfl) rfl rfl (by kernel_rfl) ?_
              refine WL.pure (v := vI 0) 11 rfl (Nat.le_of_ble_eq_true rfl) rfl rfl (by kernel_rfl) ?_
              refine WL.nil ?_
              refine WQ.then ?_
              refine hK29 _ _ _ ?_
              refine WC.sub (l' := [(0, .agg #[vI ((s + t : Nat) : Int), vI (s : Int)]), (1, vI W), (2, vI m), (3, vI n), (4, vP b3 0), (8, .bool false), (9, vS bl 2 2), (10, vI (ah ((s + t : Nat) : Int) (s : Int) W)), (11, vI 0), (51, .bool false), (68, .bool true)]) ⟨rfl, rfl, rfl, rfl, rfl, rfl, rfl, rfl, rfl, rfl, rfl, trivial⟩ ?_
              refine WC.seq fun K33 hK33 => ?_
              refine WC.region ?_
              refine WL.pure (v := vS bl 2 2) 76 rfl (Nat.le_of_ble_eq_true rfl) rfl rfl (by kernel_rfl) ?_
              refine WL.pure (v := vI W) 77 rfl (Nat.le_of_ble_eq_true rfl) rfl rfl (by kernel_rfl) ?_
              refine WL.call (f := 44) (args := #[vS bl 2 2, vI 1, vI W]) 78 rfl (Nat.le_of_ble_eq_true rfl) rfl rfl (by kernel_rfl) ?_
              refine (bleast1_any _ _ s t W _ (LR_of hH32 1 rfl) hs ht (by omega) (by omega)).mono ?_
              rintro e w34 ⟨j1, hj1, rfl, hb35⟩
              refine ⟨_, rfl, ?_⟩
              have hH36 : HP Tr w _ [.cel b3 #[vI ((s + t : Nat) : Int), vI (s : Int)] 23, .cel bl #[vI 0, vI (s : Int), vI 1, vI (t : Int)] 44] := HP.call hH32 hb35
              have e1 := least_eq ((s + t : Nat) : Int) (s : Int) W j1 (by omega) (by omega) (by omega)
              rw [show ((s + t : Nat) : Int) - (s : Int) = (t : Int) by omega] at e1
              refine WL.pure (v := .tuple #[vI (mn (fun x => ad ((s + t : Nat) : Int) (s : Int) (t : Int) (x + W) - ad ((s + t : Nat) : Int) (s : Int) (t : Int) x) j1), vI 0]) 75 rfl (Nat.le_of_ble_eq_true rfl) rfl rfl (by kernel_rfl) ?_
              refine WL.pure (v := vI (mn (fun x => ad ((s + t : Nat) : Int) (s : Int) (t : Int) (x + W) - ad ((s + t : Nat) : Int) (s : Int) (t : Int) x) j1)) 79 rfl (Nat.le_of_ble_eq_true rfl) rfl rfl (by kernel_rfl) ?_
              refine WL.pure (v := vI 0) 80 rfl (Nat.le_of_ble_eq_true rfl) rfl rfl (by kernel_rfl) ?_
              refine WL.pure (v := vI (mn (fun x => ad ((s + t : Nat) : Int) (s : Int) (t : Int) (x + W) - ad ((s + t : Nat) : Int) (s : Int) (t : Int) x) j1)) 12 rfl (Nat.le_of_ble_eq_true rfl) rfl rfl (by kernel_rfl) ?_
              refine WL.pure (v := vI 0) 13 rfl (Nat.le_of_ble_eq_true rfl) rfl rfl (by kernel_rfl) ?_
              refine WL.nil ?_
              refine WQ.then ?_
              refine hK33 _ _ _ ?_
              refine WC.sub (l' := [(0, .agg #[vI ((s + t : Nat) : Int), vI (s : Int)]), (1, vI W), (2, vI m), (3, vI n), (4, vP b3 0), (8, .bool false), (9, vS bl 2 2), (10, vI (ah ((s + t : Nat) : Int) (s : Int) W)), (11, vI 0), (12, vI (mn (fun x => ad ((s + t : Nat) : Int) (s : Int) (t : Int) (x + W) - ad ((s + t : Nat) : Int) (s : Int) (t : Int) x) j1)), (13, vI 0), (51, .bool false), (68, .bool true)]) ⟨rfl, rfl, rfl, rfl, rfl, rfl, rfl, rfl, rfl, rfl, rfl, rfl, rfl, trivial⟩ ?_
              refine WC.seq fun K37 hK37 => ?_
              refine WC.region ?_
              refine WL.pure (v := .agg #[vI ((s + t : Nat) : Int), vI (s : Int)]) 82 rfl (Nat.le_of_ble_eq_true rfl) rfl rfl (x_loadS (cs := [vI ((s + t : Nat) : Int), vI (s : Int)]) rfl rfl Try.underlying23 rfl sz23 (HP.range hH36 0 rfl rfl)) ?_
              refine WL.pure (v := vI W) 83 rfl (Nat.le_of_ble_eq_true rfl) rfl rfl (by kernel_rfl) ?_
              refine WL.call (f := 24) (args := #[.agg #[vI ((s + t : Nat) : Int), vI (s : Int)], vI W]) 84 rfl (Nat.le_of_ble_eq_true rfl) rfl rfl (by kernel_rfl) ?_
              refine (most_ok ((s + t : Nat) : Int) (s : Int) W _ hv (by omega) (by omega)).mono ?_
              rintro e w38 ⟨rfl, hb39⟩
              refine ⟨_, rfl, ?_⟩
              have hH40 : HP Tr w _ [.cel b3 #[vI ((s + t : Nat) : Int), vI (s : Int)] 23, .cel bl #[vI 0, vI (s : Int), vI 1, vI (t : Int)] 44] := HP.call hH36 hb39
              refine WL.pure (v := .tuple #[vI (ah ((s + t : Nat) : Int) (s : Int) ((s : Int) + W)), vI 0]) 81 rfl (Nat.le_of_ble_eq_true rfl) rfl rfl (by kernel_rfl) ?_
              refine WL.pure (v := vI (ah ((s + t : Nat) : Int) (s : Int) ((s : Int) + W))) 85 rfl (Nat.le_of_ble_eq_true rfl) rfl rfl (by kernel_rfl) ?_
              refine WL.pure (v := vI 0) 86 rfl (Nat.le_of_ble_eq_true rfl) rfl rfl (by kernel_rfl) ?_
              refine WL.pure (v := vI (ah ((s + t : Nat) : Int) (s : Int) ((s : Int) + W))) 14 rfl (Nat.le_of_ble_eq_true rfl) rfl rfl (by kernel_rfl) ?_
              refine WL.pure (v := vI 0) 15 rfl (Nat.le_of_ble_eq_true rfl) rfl rfl (by kernel_rfl) ?_
              refine WL.nil ?_
              refine WQ.then ?_
              refine hK37 _ _ _ ?_
              refine WC.sub (l' := [(0, .agg #[vI ((s + t : Nat) : Int), vI (s : Int)]), (1, vI W), (2, vI m), (3, vI n), (4, vP b3 0), (8, .bool false), (9, vS bl 2 2), (10, vI (ah ((s + t : Nat) : Int) (s : Int) W)), (11, vI 0), (12, vI (mn (fun x => ad ((s + t : Nat) : Int) (s : Int) (t : Int) (x + W) - ad ((s + t : Nat) : Int) (s : Int) (t : Int) x) j1)), (13, vI 0), (14, vI (ah ((s + t : Nat) : Int) (s : Int) ((s : Int) + W))), (15, vI 0), (51, .bool false), (68, .bool true)]) ⟨rfl, rfl, rfl, rfl, rfl, rfl, rfl, rfl, rfl, rfl, rfl, rfl, rfl, rfl, rfl, trivial⟩ ?_
              refine WC.seq fun K41 hK41 => ?_
              refine WC.region ?_
              refine WL.pure (v := vS bl 2 2) 88 rfl (Nat.le_of_ble_eq_true rfl) rfl rfl (by kernel_rfl) ?_
              refine WL.pure (v := vI W) 89 rfl (Nat.le_of_ble_eq_true rfl) rfl rfl (by kernel_rfl) ?_
              refine WL.call (f := 45) (args := #[vS bl 2 2, vI 1, vI W]) 90 rfl (Nat.le_of_ble_eq_true rfl) rfl rfl (by kernel_rfl) ?_
              refine (bmost1_any _ _ s t W _ (LR_of hH40 1 rfl) hs ht (by omega) (by omega)).mono ?_
              rintro e w42 ⟨j2, hj2, rfl, hb43⟩
              refine ⟨_, rfl, ?_⟩
              have hH44 : HP Tr w _ [.cel b3 #[vI ((s + t : Nat) : Int), vI (s : Int)] 23, .cel bl #[vI 0, vI (s : Int), vI 1, vI (t : Int)] 44] := HP.call hH40 hb43
              have e2 := most_eq ((s + t : Nat) : Int) (s : Int) W j2 (by omega) (by omega) (by omega)
              rw [show ((s + t : Nat) : Int) - (s : Int) = (t : Int) by omega] at e2
              refine WL.pure (v := .tuple #[vI (mx (fun x => ad ((s + t : Nat) : Int) (s : Int) (t : Int) (x + W) - ad ((s + t : Nat) : Int) (s : Int) (t : Int) x) j2), vI 0]) 87 rfl (Nat.le_of_ble_eq_true rfl) rfl rfl (by kernel_rfl) ?_
              refine WL.pure (v := vI (mx (fun x => ad ((s + t : Nat) : Int) (s : Int) (t : Int) (x + W) - ad ((s + t : Nat) : Int) (s : Int) (t : Int) x) j2)) 91 rfl (Nat.le_of_ble_eq_true rfl) rfl rfl (by kernel_rfl) ?_
              refine WL.pure (v := vI 0) 92 rfl (Nat.le_of_ble_eq_true rfl) rfl rfl (by kernel_rfl) ?_
              refine WL.pure (v := vI (mx (fun x => ad ((s + t : Nat) : Int) (s : Int) (t : Int) (x + W) - ad ((s + t : Nat) : Int) (s : Int) (t : Int) x) j2)) 16 rfl (Nat.le_of_ble_eq_true rfl) rfl rfl (by kernel_rfl) ?_
              refine WL.pure (v := vI 0) 17 rfl (Nat.le_of_ble_eq_true rfl) rfl rfl (by kernel_rfl) ?_
              refine WL.nil ?_
              refine WQ.then ?_
              refine hK41 _ _ _ ?_
              refine WC.sub (l' := [(0, .agg #[vI ((s + t : Nat) : Int), vI (s : Int)]), (1, vI W), (2, vI m), (3, vI n), (4, vP b3 0), (8, .bool false), (9, vS bl 2 2), (10, vI (ah ((s + t : Nat) : Int) (s : Int) W)), (11, vI 0), (12, vI (mn (fun x => ad ((s + t : Nat) : Int) (s : Int) (t : Int) (x + W) - ad ((s + t : Nat) : Int) (s : Int) (t : Int) x) j1)), (13, vI 0), (14, vI (ah ((s + t : Nat) : Int) (s : Int) ((s : Int) + W))), (15, vI 0), (16, vI (mx (fun x => ad ((s + t : Nat) : Int) (s : Int) (t : Int) (x + W) - ad ((s + t : Nat) : Int) (s : Int) (t : Int) x) j2)), (17, vI 0), (51, .bool false), (68, .bool true)]) ⟨rfl, rfl, rfl, rfl, rfl, rfl, rfl, rfl, rfl, rfl, rfl, rfl, rfl, rfl, rfl, rfl, rfl, trivial⟩ ?_
              refine WC.seq fun K45 hK45 => ?_
              refine WC.region ?_
              refine WL.pure (v := .agg #[vI ((s + t : Nat) : Int), vI (s : Int)]) 94 rfl (Nat.le_of_ble_eq_true rfl) rfl rfl (x_loadS (cs := [vI ((s + t : Nat) : Int), vI (s : Int)]) rfl rfl Try.underlying23 rfl sz23 (HP.range hH44 0 rfl rfl)) ?_
              refine WL.pure (v := vI W) 95 rfl (Nat.le_of_ble_eq_true rfl) rfl rfl (by kernel_rfl) ?_
              refine WL.call (f := 32) (args := #[.agg #[vI ((s + t : Nat) : Int), vI (s : Int)], vI W]) 96 rfl (Nat.le_of_ble_eq_true rfl) rfl rfl (by kernel_rfl) ?_
              refine (coll_ok ((s + t : Nat) : Int) (s : Int) W _ hv (by omega) (by omega)).mono ?_
              rintro e w46 ⟨rfl, hb47⟩
              refine ⟨_, rfl, ?_⟩
              have hH48 : HP Tr w _ [.cel b3 #[vI ((s + t : Nat) : Int), vI (s : Int)] 23, .cel bl #[vI 0, vI (s : Int), vI 1, vI (t : Int)] 44] := HP.call hH44 hb47
              refine WL.pure (v := .tuple #[vI (W - ah ((s + t : Nat) : Int) (s : Int) ((s : Int) + W)), vI 0]) 93 rfl (Nat.le_of_ble_eq_true rfl) rfl rfl (by kernel_rfl) ?_
              refine WL.pure (v := vI (W - ah ((s + t : Nat) : Int) (s : Int) ((s : Int) + W))) 97 rfl (Nat.le_of_ble_eq_true rfl) rfl rfl (by kernel_rfl) ?_
              refine WL.pure (v := vI 0) 98 rfl (Nat.le_of_ble_eq_true rfl) rfl rfl (by kernel_rfl) ?_
              refine WL.pure (v := vI (W - ah ((s + t : Nat) : Int) (s : Int) ((s : Int) + W))) 18 rfl (Nat.le_of_ble_eq_true rfl) rfl rfl (by kernel_rfl) ?_
              refine WL.pure (v := vI 0) 19 rfl (Nat.le_of_ble_eq_true rfl) rfl rfl (by kernel_rfl) ?_
              refine WL.nil ?_
              refine WQ.then ?_
              refine hK45 _ _ _ ?_
              refine WC.sub (l' := [(0, .agg #[vI ((s + t : Nat) : Int), vI (s : Int)]), (1, vI W), (2, vI m), (3, vI n), (4, vP b3 0), (8, .bool false), (9, vS bl 2 2), (10, vI (ah ((s + t : Nat) : Int) (s : Int) W)), (11, vI 0), (12, vI (mn (fun x => ad ((s + t : Nat) : Int) (s : Int) (t : Int) (x + W) - ad ((s + t : Nat) : Int) (s : Int) (t : Int) x) j1)), (13, vI 0), (14, vI (ah ((s + t : Nat) : Int) (s : Int) ((s : Int) + W))), (15, vI 0), (16, vI (mx (fun x => ad ((s + t : Nat) : Int) (s : Int) (t : Int) (x + W) - ad ((s + t : Nat) : Int) (s : Int) (t : Int) x) j2)), (17, vI 0), (18, vI (W - ah ((s + t : Nat) : Int) (s : Int) ((s : Int) + W))), (19, vI 0), (51, .bool false), (68, .bool true)]) ⟨rfl, rfl, rfl, rfl, rfl, rfl, rfl, rfl, rfl, rfl, rfl, rfl, rfl, rfl, rfl, rfl, rfl, rfl, rfl, trivial⟩ ?_
              refine WC.seq fun K49 hK49 => ?_
              refine WC.region ?_
              refine WL.pure (v := vS bl 2 2) 100 rfl (Nat.le_of_ble_eq_true rfl) rfl rfl (by kernel_rfl) ?_
              refine WL.pure (v := vI W) 101 rfl (Nat.le_of_ble_eq_true rfl) rfl rfl (by kernel_rfl) ?_
              refine WL.call (f := 44) (args := #[vS bl 2 2, vI 0, vI W]) 102 rfl (Nat.le_of_ble_eq_true rfl) rfl rfl (by kernel_rfl) ?_
              refine (bleast0_any _ _ s t W _ (LR_of hH48 1 rfl) hs ht (by omega) (by omega)).mono ?_
              rintro e w50 ⟨j3, hj3, rfl, hb51⟩
              refine ⟨_, rfl, ?_⟩
              have hH52 : HP Tr w _ [.cel b3 #[vI ((s + t : Nat) : Int), vI (s : Int)] 23, .cel bl #[vI 0, vI (s : Int), vI 1, vI (t : Int)] 44] := HP.call hH48 hb51
              have e3 := coll_eq ((s + t : Nat) : Int) (s : Int) W j3 (by omega) (by omega) (by omega)
              refine WL.pure (v := .tuple #[vI (mn (fun x => ad ((s + t : Nat) : Int) (0 : Int) (s : Int) (x + W) - ad ((s + t : Nat) : Int) (0 : Int) (s : Int) x) j3), vI 0]) 99 rfl (Nat.le_of_ble_eq_true rfl) rfl rfl (by kernel_rfl) ?_
              refine WL.pure (v := vI (mn (fun x => ad ((s + t : Nat) : Int) (0 : Int) (s : Int) (x + W) - ad ((s + t : Nat) : Int) (0 : Int) (s : Int) x) j3)) 103 rfl (Nat.le_of_ble_eq_true rfl) rfl rfl (by kernel_rfl) ?_
              refine WL.pure (v := vI 0) 104 rfl (Nat.le_of_ble_eq_true rfl) rfl rfl (by kernel_rfl) ?_
              refine WL.pure (v := vI (mn (fun x => ad ((s + t : Nat) : Int) (0 : Int) (s : Int) (x + W) - ad ((s + t : Nat) : Int) (0 : Int) (s : Int) x) j3)) 20 rfl (Nat.le_of_ble_eq_true rfl) rfl rfl (by kernel_rfl) ?_
              refine WL.pure (v := vI 0) 21 rfl (Nat.le_of_ble_eq_true rfl) rfl rfl (by kernel_rfl) ?_
              refine WL.nil ?_
              refine WQ.then ?_
              refine hK49 _ _ _ ?_
              refine WC.sub (l' := [(0, .agg #[vI ((s + t : Nat) : Int), vI (s : Int)]), (1, vI W), (2, vI m), (3, vI n), (4, vP b3 0), (8, .bool false), (9, vS bl 2 2), (10, vI (ah ((s + t : Nat) : Int) (s : Int) W)), (11, vI 0), (12, vI (mn (fun x => ad ((s + t : Nat) : Int) (s : Int) (t : Int) (x + W) - ad ((s + t : Nat) : Int) (s : Int) (t : Int) x) j1)), (13, vI 0), (14, vI (ah ((s + t : Nat) : Int) (s : Int) ((s : Int) + W))), (15, vI 0), (16, vI (mx (fun x => ad ((s + t : Nat) : Int) (s : Int) (t : Int) (x + W) - ad ((s + t : Nat) : Int) (s : Int) (t : Int) x) j2)), (17, vI 0), (18, vI (W - ah ((s + t : Nat) : Int) (s : Int) ((s : Int) + W))), (19, vI 0), (20, vI (mn (fun x => ad ((s + t : Nat) : Int) (0 : Int) (s : Int) (x + W) - ad ((s + t : Nat) : Int) (0 : Int) (s : Int) x) j3)), (21, vI 0), (51, .bool false), (68, .bool true)]) ⟨rfl, rfl, rfl, rfl, rfl, rfl, rfl, rfl, rfl, rfl, rfl, rfl, rfl, rfl, rfl, rfl, rfl, rfl, rfl, rfl, rfl, trivial⟩ ?_
              refine WC.seq fun K53 hK53 => ?_
              refine WC.region ?_
              refine WL.pure (v := vI (ah ((s + t : Nat) : Int) (s : Int) W)) 105 rfl (Nat.le_of_ble_eq_true rfl) rfl rfl (by kernel_rfl) ?_
              refine WL.pure (v := vI (mn (fun x => ad ((s + t : Nat) : Int) (s : Int) (t : Int) (x + W) - ad ((s + t : Nat) : Int) (s : Int) (t : Int) x) j1)) 106 rfl (Nat.le_of_ble_eq_true rfl) rfl rfl (by kernel_rfl) ?_
              refine WL.pure (v := .bool false) 107 rfl (Nat.le_of_ble_eq_true rfl) rfl rfl (x_neq rfl rfl rfl (dF (fun h => h e1.symm))) ?_
              refine WL.pure (v := .bool false) 108 rfl (Nat.le_of_ble_eq_true rfl) rfl rfl (by kernel_rfl) ?_
              refine WL.pure (v := vI 0) 109 rfl (Nat.le_of_ble_eq_true rfl) rfl rfl (by kernel_rfl) ?_
              refine WL.pure (v := vI 0) 110 rfl (Nat.le_of_ble_eq_true rfl) rfl rfl (by kernel_rfl) ?_
              refine WL.pure (v := .bool false) 111 rfl (Nat.le_of_ble_eq_true rfl) rfl rfl (x_neq rfl rfl rfl (by decide)) ?_
              refine WL.pure (v := .bool false) 112 rfl (Nat.le_of_ble_eq_true rfl) rfl rfl (by kernel_rfl) ?_
              refine WL.pure (v := .bool false) 113 rfl (Nat.le_of_ble_eq_true rfl) rfl rfl (by kernel_rfl) ?_
              refine WL.pure (v := vI (ah ((s + t : Nat) : Int) (s : Int) ((s : Int) + W))) 114 rfl (Nat.le_of_ble_eq_true rfl) rfl rfl (by kernel_rfl) ?_
              refine WL.pure (v := vI (mx (fun x => ad ((s + t : Nat) : Int) (s : Int) (t : Int) (x + W) - ad ((s + t : Nat) : Int) (s : Int) (t : Int) x) j2)) 115 rfl (Nat.le_of_ble_eq_true rfl) rfl rfl (by kernel_rfl) ?_
              refine WL.pure (v := .bool false) 116 rfl (Nat.le_of_ble_eq_true rfl) rfl rfl (x_neq rfl rfl rfl (dF (fun h => h e2.symm))) ?_
              refine WL.pure (v := .bool false) 117 rfl (Nat.le_of_ble_eq_true rfl) rfl rfl (by kernel_rfl) ?_
              refine WL.pure (v := .bool false) 118 rfl (Nat.le_of_ble_eq_true rfl) rfl rfl (by kernel_rfl) ?_
              refine WL.pure (v := vI 0) 119 rfl (Nat.le_of_ble_eq_true rfl) rfl rfl (by kernel_rfl) ?_
              refine WL.pure (v := vI 0) 120 rfl (Nat.le_of_ble_eq_true rfl) rfl rfl (by kernel_rfl) ?_
              refine WL.pure (v := .bool false) 121 rfl (Nat.le_of_ble_eq_true rfl) rfl rfl (x_neq rfl rfl rfl (by decide)) ?_
              refine WL.pure (v := .bool false) 122 rfl (Nat.le_of_ble_eq_true rfl) rfl rfl (by kernel_rfl) ?_
              refine WL.pure (v := .bool false) 123 rfl (Nat.le_of_ble_eq_true rfl) rfl rfl (by kernel_rfl) ?_
              refine WL.pure (v := vI (W - ah ((s + t : Nat) : Int) (s : Int) ((s : Int) + W))) 124 rfl (Nat.le_of_ble_eq_true rfl) rfl rfl (by kernel_rfl) ?_
              refine WL.pure (v := vI (mn (fun x => ad ((s + t : Nat) : Int) (0 : Int) (s : Int) (x + W) - ad ((s + t : Nat) : Int) (0 : Int) (s : Int) x) j3)) 125 rfl (Nat.le_of_ble_eq_true rfl) rfl rfl (by kernel_rfl) ?_
              refine WL.pure (v := .bool false) 126 rfl (Nat.le_of_ble_eq_true rfl) rfl rfl (x_neq rfl rfl rfl (dF (fun h => h e3.symm))) ?_
              refine WL.pure (v := .bool false) 127 rfl (Nat.le_of_ble_eq_true rfl) rfl rfl (by kernel_rfl) ?_
              refine WL.pure (v := .bool false) 128 rfl (Nat.le_of_ble_eq_true rfl) rfl rfl (by kernel_rfl) ?_
              refine WL.pure (v := vI 0) 129 rfl (Nat.le_of_ble_eq_true rfl) rfl rfl (by kernel_rfl) ?_
              refine WL.pure (v := vI 0) 130 rfl (Nat.le_of_ble_eq_true rfl) rfl rfl (by kernel_rfl) ?_
              refine WL.pure (v := .bool false) 131 rfl (Nat.le_of_ble_eq_true rfl) rfl rfl (x_neq rfl rfl rfl (by decide)) ?_
              refine WL.pure (v := .bool false) 132 rfl (Nat.le_of_ble_eq_true rfl) rfl rfl (by kernel_rfl) ?_
              refine WL.pure (v := .bool false) 133 rfl (Nat.le_of_ble_eq_true rfl) rfl rfl (by kernel_rfl) ?_
              refine WL.pure (v := vI 0) 134 rfl (Nat.le_of_ble_eq_true rfl) rfl rfl (by kernel_rfl) ?_
              refine WL.pure (v := .bool false) 135 rfl (Nat.le_of_ble_eq_true rfl) rfl rfl (x_neq rfl rfl rfl (by decide)) ?_
              refine WL.pure (v := .bool false) 136 rfl (Nat.le_of_ble_eq_true rfl) rfl rfl (by kernel_rfl) ?_
              refine WL.pure (v := .bool false) 137 rfl (Nat.le_of_ble_eq_true rfl) rfl rfl (by kernel_rfl) ?_
              refine WL.pure (v := vI 0) 138 rfl (Nat.le_of_ble_eq_true rfl) rfl rfl (by kernel_rfl) ?_
              refine WL.pure (v := .bool false) 139 rfl (Nat.le_of_ble_eq_true rfl) rfl rfl (x_neq rfl rfl rfl (by decide)) ?_
              refine WL.pure (v := .bool false) 140 rfl (Nat.le_of_ble_eq_true rfl) rfl rfl (by kernel_rfl) ?_
              refine WL.pure (v := .bool false) 141 rfl (Nat.le_of_ble_eq_true rfl) rfl rfl (by kernel_rfl) ?_
              refine WL.pure (v := vI 0) 142 rfl (Nat.le_of_ble_eq_true rfl) rfl rfl (by kernel_rfl) ?_
              refine WL.pure (v := .bool false) 143 rfl (Nat.le_of_ble_eq_true rfl) rfl rfl (x_neq rfl rfl rfl (by decide)) ?_
              refine WL.pure (v := .bool false) 144 rfl (Nat.le_of_ble_eq_true rfl) rfl rfl (by kernel_rfl) ?_
              refine WL.nil ?_
              refine WQ.then ?_
              refine hK53 _ _ _ ?_
              refine WC.sub (l' := [(0, .agg #[vI ((s + t : Nat) : Int), vI (s : Int)]), (1, vI W), (2, vI m), (3, vI n), (4, vP b3 0), (8, .bool false), (9, vS bl 2 2), (10, vI (ah ((s + t : Nat) : Int) (s : Int) W)), (11, vI 0), (12, vI (mn (fun x => ad ((s + t : Nat) : Int) (s : Int) (t : Int) (x + W) - ad ((s + t : Nat) : Int) (s : Int) (t : Int) x) j1)), (13, vI 0), (14, vI (ah ((s + t : Nat) : Int) (s : Int) ((s : Int) + W))), (15, vI 0), (16, vI (mx (fun x => ad ((s + t : Nat) : Int) (s : Int) (t : Int) (x + W) - ad ((s + t : Nat) : Int) (s : Int) (t : Int) x) j2)), (17, vI 0), (18, vI (W - ah ((s + t : Nat) : Int) (s : Int) ((s : Int) + W))), (19, vI 0), (20, vI (mn (fun x => ad ((s + t : Nat) : Int) (0 : Int) (s : Int) (x + W) - ad ((s + t : Nat) : Int) (0 : Int) (s : Int) x) j3)), (21, vI 0), (51, .bool false), (68, .bool true), (144, .bool false)]) ⟨rfl, rfl, rfl, rfl, rfl, rfl, rfl, rfl, rfl, rfl, rfl, rfl, rfl, rfl, rfl, rfl, rfl, rfl, rfl, rfl, rfl, rfl, trivial⟩ ?_
              refine WC.no rfl ?_
              refine WC.skip ?_
              refine WQ.then ?_
              refine hK27 _ _ _ ?_
              refine WC.seq fun K54 hK54 => ?_
              refine WC.seq fun K55 hK55 => ?_
              refine WC.region ?_
              refine WL.pure (v := vI m) 145 rfl (Nat.le_of_ble_eq_true rfl) rfl rfl (by kernel_rfl) ?_
              by_cases hf0 : (0 : Int) ≤ m
              ·
                refine WL.pure (v := .bool true) 146 rfl (Nat.le_of_ble_eq_true rfl) rfl rfl (x_geq rfl rfl rfl (dT (hf0))) ?_
                refine WL.pure (v := .bool true) 147 rfl (Nat.le_of_ble_eq_true rfl) rfl rfl (by kernel_rfl) ?_
                refine WL.pure (v := vI m) 148 rfl (Nat.le_of_ble_eq_true rfl) rfl rfl (by kernel_rfl) ?_
                by_cases hf1 : m ≤ 10000
                ·
                  refine WL.pure (v := .bool true) 149 rfl (Nat.le_of_ble_eq_true rfl) rfl rfl (x_leq rfl rfl rfl (dT (hf1))) ?_
                  refine WL.pure (v := .bool true) 150 rfl (Nat.le_of_ble_eq_true rfl) rfl rfl (by kernel_rfl) ?_
                  refine WL.pure (v := .bool true) 151 rfl (Nat.le_of_ble_eq_true rfl) rfl rfl (by kernel_rfl) ?_
                  refine WL.pure (v := vI n) 152 rfl (Nat.le_of_ble_eq_true rfl) rfl rfl (by kernel_rfl) ?_
                  by_cases hn0 : (1 : Int) ≤ n
                  ·
                    refine WL.pure (v := .bool true) 153 rfl (Nat.le_of_ble_eq_true rfl) rfl rfl (x_geq rfl rfl rfl (dT (hn0))) ?_
                    refine WL.pure (v := .bool true) 154 rfl (Nat.le_of_ble_eq_true rfl) rfl rfl (by kernel_rfl) ?_
                    refine WL.pure (v := .bool true) 155 rfl (Nat.le_of_ble_eq_true rfl) rfl rfl (by kernel_rfl) ?_
                    refine WL.pure (v := vI n) 156 rfl (Nat.le_of_ble_eq_true rfl) rfl rfl (by kernel_rfl) ?_
                    by_cases hn1 : n ≤ 100
                    ·
                      refine WL.pure (v := .bool true) 157 rfl (Nat.le_of_ble_eq_true rfl) rfl rfl (x_leq rfl rfl rfl (dT (hn1))) ?_
                      refine WL.pure (v := .bool true) 158 rfl (Nat.le_of_ble_eq_true rfl) rfl rfl (by kernel_rfl) ?_
                      refine WL.nil ?_
                      refine WQ.then ?_
                      refine hK55 _ _ _ ?_
                      refine WC.sub (l' := [(0, .agg #[vI ((s + t : Nat) : Int), vI (s : Int)]), (1, vI W), (2, vI m), (3, vI n), (4, vP b3 0), (8, .bool false), (9, vS bl 2 2), (10, vI (ah ((s + t : Nat) : Int) (s : Int) W)), (11, vI 0), (12, vI (mn (fun x => ad ((s + t : Nat) : Int) (s : Int) (t : Int) (x + W) - ad ((s + t : Nat) : Int) (s : Int) (t : Int) x) j1)), (13, vI 0), (14, vI (ah ((s + t : Nat) : Int) (s : Int) ((s : Int) + W))), (15, vI 0), (16, vI (mx (fun x => ad ((s + t : Nat) : Int) (s : Int) (t : Int) (x + W) - ad ((s + t : Nat) : Int) (s : Int) (t : Int) x) j2)), (17, vI 0), (18, vI (W - ah ((s + t : Nat) : Int) (s : Int) ((s : Int) + W))), (19, vI 0), (20, vI (mn (fun x => ad ((s + t : Nat) : Int) (0 : Int) (s : Int) (x + W) - ad ((s + t : Nat) : Int) (0 : Int) (s : Int) x) j3)), (21, vI 0), (51, .bool false), (68, .bool true), (144, .bool false), (158, .bool true)]) ⟨rfl, rfl, rfl, rfl, rfl, rfl, rfl, rfl, rfl, rfl, rfl, rfl, rfl, rfl, rfl, rfl, rfl, rfl, rfl, rfl, rfl, rfl, rfl, trivial⟩ ?_
                      refine WC.yes rfl ?_
                      refine WC.seq fun K56 hK56 => ?_
                      refine WC.region ?_
                      refine WL.pure (v := .agg #[vI ((s + t : Nat) : Int), vI (s : Int)]) 160 rfl (Nat.le_of_ble_eq_true rfl) rfl rfl (x_loadS (cs := [vI ((s + t : Nat) : Int), vI (s : Int)]) rfl rfl Try.underlying23 rfl sz23 (HP.range hH52 0 rfl rfl)) ?_
                      refine WL.pure (v := vI m) 161 rfl (Nat.le_of_ble_eq_true rfl) rfl rfl (by kernel_rfl) ?_
                      refine WL.pure (v := vI n) 162 rfl (Nat.le_of_ble_eq_true rfl) rfl rfl (by kernel_rfl) ?_
                      refine WL.call (f := 25) (args := #[.agg #[vI ((s + t : Nat) : Int), vI (s : Int)], vI m, vI n]) 163 rfl (Nat.le_of_ble_eq_true rfl) rfl rfl (by kernel_rfl) ?_
                      refine (when_ok ((s + t : Nat) : Int) (s : Int) m n _ hv (by omega) (by omega) (by omega) (by omega)).mono ?_
                      rintro e w57 ⟨rfl, hb58⟩
                      refine ⟨_, rfl, ?_⟩
                      have hH59 : HP Tr w _ [.cel b3 #[vI ((s + t : Nat) : Int), vI (s : Int)] 23, .cel bl #[vI 0, vI (s : Int), vI 1, vI (t : Int)] 44] := HP.call hH52 hb58
                      refine WL.pure (v := .tuple #[vI (wn ((s + t : Nat) : Int) (s : Int) m n), vI 0]) 159 rfl (Nat.le_of_ble_eq_true rfl) rfl rfl (by kernel_rfl) ?_
                      refine WL.pure (v := vI (wn ((s + t : Nat) : Int) (s : Int) m n)) 164 rfl (Nat.le_of_ble_eq_true rfl) rfl rfl (by kernel_rfl) ?_
                      refine WL.pure (v := vI 0) 165 rfl (Nat.le_of_ble_eq_true rfl) rfl rfl (by kernel_rfl) ?_
                      refine WL.pure (v := vI (wn ((s + t : Nat) : Int) (s : Int) m n)) 22 rfl (Nat.le_of_ble_eq_true rfl) rfl rfl (by kernel_rfl) ?_
                      refine WL.pure (v := vI 0) 23 rfl (Nat.le_of_ble_eq_true rfl) rfl rfl (by kernel_rfl) ?_
                      refine WL.nil ?_
                      refine WQ.then ?_
                      refine hK56 _ _ _ ?_
                      refine WC.sub (l' := [(0, .agg #[vI ((s + t : Nat) : Int), vI (s : Int)]), (1, vI W), (2, vI m), (3, vI n), (4, vP b3 0), (8, .bool false), (9, vS bl 2 2), (10, vI (ah ((s + t : Nat) : Int) (s : Int) W)), (11, vI 0), (12, vI (mn (fun x => ad ((s + t : Nat) : Int) (s : Int) (t : Int) (x + W) - ad ((s + t : Nat) : Int) (s : Int) (t : Int) x) j1)), (13, vI 0), (14, vI (ah ((s + t : Nat) : Int) (s : Int) ((s : Int) + W))), (15, vI 0), (16, vI (mx (fun x => ad ((s + t : Nat) : Int) (s : Int) (t : Int) (x + W) - ad ((s + t : Nat) : Int) (s : Int) (t : Int) x) j2)), (17, vI 0), (18, vI (W - ah ((s + t : Nat) : Int) (s : Int) ((s : Int) + W))), (19, vI 0), (20, vI (mn (fun x => ad ((s + t : Nat) : Int) (0 : Int) (s : Int) (x + W) - ad ((s + t : Nat) : Int) (0 : Int) (s : Int) x) j3)), (21, vI 0), (22, vI (wn ((s + t : Nat) : Int) (s : Int) m n)), (23, vI 0), (51, .bool false), (68, .bool true), (144, .bool false), (158, .bool true)]) ⟨rfl, rfl, rfl, rfl, rfl, rfl, rfl, rfl, rfl, rfl, rfl, rfl, rfl, rfl, rfl, rfl, rfl, rfl, rfl, rfl, rfl, rfl, rfl, rfl, rfl, trivial⟩ ?_
                      refine WC.seq fun K60 hK60 => ?_
                      refine WC.region ?_
                      refine WL.pure (v := vS bl 2 2) 167 rfl (Nat.le_of_ble_eq_true rfl) rfl rfl (by kernel_rfl) ?_
                      refine WL.pure (v := vI m) 168 rfl (Nat.le_of_ble_eq_true rfl) rfl rfl (by kernel_rfl) ?_
                      refine WL.pure (v := vI n) 169 rfl (Nat.le_of_ble_eq_true rfl) rfl rfl (by kernel_rfl) ?_
                      refine WL.pure (v := .agg #[vI 1, vI m, vI n]) 170 rfl (Nat.le_of_ble_eq_true rfl) rfl rfl (by kernel_rfl) ?_
                      refine WL.call (f := 46) (args := #[vS bl 2 2, .agg #[vI 1, vI m, vI n]]) 171 rfl (Nat.le_of_ble_eq_true rfl) rfl rfl (by kernel_rfl) ?_
                      refine (bEnd_any _ _ s t m n _ (LR_of hH59 1 rfl) hs ht (by omega) (by omega) (by omega) (by omega)).mono ?_
                      rintro e w61 ⟨rfl, hb62⟩
                      refine ⟨_, rfl, ?_⟩
                      have hH63 : HP Tr w _ [.cel b3 #[vI ((s + t : Nat) : Int), vI (s : Int)] 23, .cel bl #[vI 0, vI (s : Int), vI 1, vI (t : Int)] 44] := HP.call hH59 hb62
                      have e4 : wn ((s + t : Nat) : Int) (s : Int) m n = pd ((s + t : Nat) : Int) (s : Int) (t : Int) (ad ((s + t : Nat) : Int) (s : Int) (t : Int) m + n) := by
                        have q := ad_ah ((s + t : Nat) : Int) (s : Int) m (by omega) (by omega) (by omega)
                        rw [show ((s + t : Nat) : Int) - (s : Int) = (t : Int) by omega] at q
                        unfold wn pl; rw [if_neg (by omega), ← q, show ((s + t : Nat) : Int) - (s : Int) = (t : Int) by omega]; rfl
                      refine WL.pure (v := .tuple #[vI (pd ((s + t : Nat) : Int) (s : Int) (t : Int) (ad ((s + t : Nat) : Int) (s : Int) (t : Int) m + n)), vI 0]) 166 rfl (Nat.le_of_ble_eq_true rfl) rfl rfl (by kernel_rfl) ?_
                      refine WL.pure (v := vI (pd ((s + t : Nat) : Int) (s : Int) (t : Int) (ad ((s + t : Nat) : Int) (s : Int) (t : Int) m + n))) 172 rfl (Nat.le_of_ble_eq_true rfl) rfl rfl (by kernel_rfl) ?_
                      refine WL.pure (v := vI 0) 173 rfl (Nat.le_of_ble_eq_true rfl) rfl rfl (by kernel_rfl) ?_
                      refine WL.pure (v := vI (pd ((s + t : Nat) : Int) (s : Int) (t : Int) (ad ((s + t : Nat) : Int) (s : Int) (t : Int) m + n))) 24 rfl (Nat.le_of_ble_eq_true rfl) rfl rfl (by kernel_rfl) ?_
                      refine WL.pure (v := vI 0) 25 rfl (Nat.le_of_ble_eq_true rfl) rfl rfl (by kernel_rfl) ?_
                      refine WL.nil ?_
                      refine WQ.then ?_
                      refine hK60 _ _ _ ?_
                      refine WC.sub (l' := [(0, .agg #[vI ((s + t : Nat) : Int), vI (s : Int)]), (1, vI W), (2, vI m), (3, vI n), (4, vP b3 0), (8, .bool false), (9, vS bl 2 2), (10, vI (ah ((s + t : Nat) : Int) (s : Int) W)), (11, vI 0), (12, vI (mn (fun x => ad ((s + t : Nat) : Int) (s : Int) (t : Int) (x + W) - ad ((s + t : Nat) : Int) (s : Int) (t : Int) x) j1)), (13, vI 0), (14, vI (ah ((s + t : Nat) : Int) (s : Int) ((s : Int) + W))), (15, vI 0), (16, vI (mx (fun x => ad ((s + t : Nat) : Int) (s : Int) (t : Int) (x + W) - ad ((s + t : Nat) : Int) (s : Int) (t : Int) x) j2)), (17, vI 0), (18, vI (W - ah ((s + t : Nat) : Int) (s : Int) ((s : Int) + W))), (19, vI 0), (20, vI (mn (fun x => ad ((s + t : Nat) : Int) (0 : Int) (s : Int) (x + W) - ad ((s + t : Nat) : Int) (0 : Int) (s : Int) x) j3)), (21, vI 0), (22, vI (wn ((s + t : Nat) : Int) (s : Int) m n)), (23, vI 0), (24, vI (pd ((s + t : Nat) : Int) (s : Int) (t : Int) (ad ((s + t : Nat) : Int) (s : Int) (t : Int) m + n))), (25, vI 0), (51, .bool false), (68, .bool true), (144, .bool false), (158, .bool true)]) ⟨rfl, rfl, rfl, rfl, rfl, rfl, rfl, rfl, rfl, rfl, rfl, rfl, rfl, rfl, rfl, rfl, rfl, rfl, rfl, rfl, rfl, rfl, rfl, rfl, rfl, rfl, rfl, trivial⟩ ?_
                      refine WC.seq fun K64 hK64 => ?_
                      refine WC.region ?_
                      refine WL.pure (v := .agg #[vI ((s + t : Nat) : Int), vI (s : Int)]) 175 rfl (Nat.le_of_ble_eq_true rfl) rfl rfl (x_loadS (cs := [vI ((s + t : Nat) : Int), vI (s : Int)]) rfl rfl Try.underlying23 rfl sz23 (HP.range hH63 0 rfl rfl)) ?_
                      refine WL.pure (v := vI n) 176 rfl (Nat.le_of_ble_eq_true rfl) rfl rfl (by kernel_rfl) ?_
                      refine WL.call (f := 19) (args := #[.agg #[vI ((s + t : Nat) : Int), vI (s : Int)], vI n]) 177 rfl (Nat.le_of_ble_eq_true rfl) rfl rfl (by kernel_rfl) ?_
                      refine (longest_ok ((s + t : Nat) : Int) (s : Int) n _ hv (by omega) (by omega)).mono ?_
                      rintro e w65 ⟨rfl, hb66⟩
                      refine ⟨_, rfl, ?_⟩
                      have hH67 : HP Tr w _ [.cel b3 #[vI ((s + t : Nat) : Int), vI (s : Int)] 23, .cel bl #[vI 0, vI (s : Int), vI 1, vI (t : Int)] 44] := HP.call hH63 hb66
                      refine WL.pure (v := .tuple #[vI (lo ((s + t : Nat) : Int) (s : Int) n), vI 0]) 174 rfl (Nat.le_of_ble_eq_true rfl) rfl rfl (by kernel_rfl) ?_
                      refine WL.pure (v := vI (lo ((s + t : Nat) : Int) (s : Int) n)) 178 rfl (Nat.le_of_ble_eq_true rfl) rfl rfl (by kernel_rfl) ?_
                      refine WL.pure (v := vI 0) 179 rfl (Nat.le_of_ble_eq_true rfl) rfl rfl (by kernel_rfl) ?_
                      refine WL.pure (v := vI (lo ((s + t : Nat) : Int) (s : Int) n)) 26 rfl (Nat.le_of_ble_eq_true rfl) rfl rfl (by kernel_rfl) ?_
                      refine WL.pure (v := vI 0) 27 rfl (Nat.le_of_ble_eq_true rfl) rfl rfl (by kernel_rfl) ?_
                      refine WL.nil ?_
                      refine WQ.then ?_
                      refine hK64 _ _ _ ?_
                      refine WC.sub (l' := [(0, .agg #[vI ((s + t : Nat) : Int), vI (s : Int)]), (1, vI W), (2, vI m), (3, vI n), (4, vP b3 0), (8, .bool false), (9, vS bl 2 2), (10, vI (ah ((s + t : Nat) : Int) (s : Int) W)), (11, vI 0), (12, vI (mn (fun x => ad ((s + t : Nat) : Int) (s : Int) (t : Int) (x + W) - ad ((s + t : Nat) : Int) (s : Int) (t : Int) x) j1)), (13, vI 0), (14, vI (ah ((s + t : Nat) : Int) (s : Int) ((s : Int) + W))), (15, vI 0), (16, vI (mx (fun x => ad ((s + t : Nat) : Int) (s : Int) (t : Int) (x + W) - ad ((s + t : Nat) : Int) (s : Int) (t : Int) x) j2)), (17, vI 0), (18, vI (W - ah ((s + t : Nat) : Int) (s : Int) ((s : Int) + W))), (19, vI 0), (20, vI (mn (fun x => ad ((s + t : Nat) : Int) (0 : Int) (s : Int) (x + W) - ad ((s + t : Nat) : Int) (0 : Int) (s : Int) x) j3)), (21, vI 0), (22, vI (wn ((s + t : Nat) : Int) (s : Int) m n)), (23, vI 0), (24, vI (pd ((s + t : Nat) : Int) (s : Int) (t : Int) (ad ((s + t : Nat) : Int) (s : Int) (t : Int) m + n))), (25, vI 0), (26, vI (lo ((s + t : Nat) : Int) (s : Int) n)), (27, vI 0), (51, .bool false), (68, .bool true), (144, .bool false), (158, .bool true)]) ⟨rfl, rfl, rfl, rfl, rfl, rfl, rfl, rfl, rfl, rfl, rfl, rfl, rfl, rfl, rfl, rfl, rfl, rfl, rfl, rfl, rfl, rfl, rfl, rfl, rfl, rfl, rfl, rfl, rfl, trivial⟩ ?_
                      refine WC.seq fun K68 hK68 => ?_
                      refine WC.region ?_
                      refine WL.pure (v := vS bl 2 2) 181 rfl (Nat.le_of_ble_eq_true rfl) rfl rfl (by kernel_rfl) ?_
                      refine WL.pure (v := vI n) 182 rfl (Nat.le_of_ble_eq_true rfl) rfl rfl (by kernel_rfl) ?_
                      refine WL.call (f := 47) (args := #[vS bl 2 2, vI 1, vI n]) 183 rfl (Nat.le_of_ble_eq_true rfl) rfl rfl (by kernel_rfl) ?_
                      refine (worst_any _ _ s t n _ (LR_of hH67 1 rfl) hs ht (by omega) (by omega)).mono ?_
                      rintro e w69 ⟨j9, mm, hj9, rfl, hb70⟩
                      refine ⟨_, rfl, ?_⟩
                      have hH71 : HP Tr w _ [.cel b3 #[vI ((s + t : Nat) : Int), vI (s : Int)] 23, .cel bl #[vI 0, vI (s : Int), vI 1, vI (t : Int)] 44] := HP.call hH67 hb70
                      have e5 := longest_eq ((s + t : Nat) : Int) (s : Int) n j9 (by omega) (by omega) (by omega)
                      rw [show ((s + t : Nat) : Int) - (s : Int) = (t : Int) by omega] at e5
                      refine WL.pure (v := .tuple #[vI (mx (wt ((s + t : Nat) : Int) (s : Int) (t : Int) n) j9), vI mm, vI 0]) 180 rfl (Nat.le_of_ble_eq_true rfl) rfl rfl (by kernel_rfl) ?_
                      refine WL.pure (v := vI (mx (wt ((s + t : Nat) : Int) (s : Int) (t : Int) n) j9)) 184 rfl (Nat.le_of_ble_eq_true rfl) rfl rfl (by kernel_rfl) ?_
                      refine WL.pure (v := vI mm) 185 rfl (Nat.le_of_ble_eq_true rfl) rfl rfl (by kernel_rfl) ?_
                      refine WL.pure (v := vI 0) 186 rfl (Nat.le_of_ble_eq_true rfl) rfl rfl (by kernel_rfl) ?_
                      refine WL.pure (v := vI (mx (wt ((s + t : Nat) : Int) (s : Int) (t : Int) n) j9)) 28 rfl (Nat.le_of_ble_eq_true rfl) rfl rfl (by kernel_rfl) ?_
                      refine WL.pure (v := vI mm) 29 rfl (Nat.le_of_ble_eq_true rfl) rfl rfl (by kernel_rfl) ?_
                      refine WL.pure (v := vI 0) 30 rfl (Nat.le_of_ble_eq_true rfl) rfl rfl (by kernel_rfl) ?_
                      refine WL.nil ?_
                      refine WQ.then ?_
                      refine hK68 _ _ _ ?_
                      refine WC.sub (l' := [(0, .agg #[vI ((s + t : Nat) : Int), vI (s : Int)]), (1, vI W), (2, vI m), (3, vI n), (4, vP b3 0), (8, .bool false), (9, vS bl 2 2), (10, vI (ah ((s + t : Nat) : Int) (s : Int) W)), (11, vI 0), (12, vI (mn (fun x => ad ((s + t : Nat) : Int) (s : Int) (t : Int) (x + W) - ad ((s + t : Nat) : Int) (s : Int) (t : Int) x) j1)), (13, vI 0), (14, vI (ah ((s + t : Nat) : Int) (s : Int) ((s : Int) + W))), (15, vI 0), (16, vI (mx (fun x => ad ((s + t : Nat) : Int) (s : Int) (t : Int) (x + W) - ad ((s + t : Nat) : Int) (s : Int) (t : Int) x) j2)), (17, vI 0), (18, vI (W - ah ((s + t : Nat) : Int) (s : Int) ((s : Int) + W))), (19, vI 0), (20, vI (mn (fun x => ad ((s + t : Nat) : Int) (0 : Int) (s : Int) (x + W) - ad ((s + t : Nat) : Int) (0 : Int) (s : Int) x) j3)), (21, vI 0), (22, vI (wn ((s + t : Nat) : Int) (s : Int) m n)), (23, vI 0), (24, vI (pd ((s + t : Nat) : Int) (s : Int) (t : Int) (ad ((s + t : Nat) : Int) (s : Int) (t : Int) m + n))), (25, vI 0), (26, vI (lo ((s + t : Nat) : Int) (s : Int) n)), (27, vI 0), (28, vI (mx (wt ((s + t : Nat) : Int) (s : Int) (t : Int) n) j9)), (30, vI 0), (51, .bool false), (68, .bool true), (144, .bool false), (158, .bool true)]) ⟨rfl, rfl, rfl, rfl, rfl, rfl, rfl, rfl, rfl, rfl, rfl, rfl, rfl, rfl, rfl, rfl, rfl, rfl, rfl, rfl, rfl, rfl, rfl, rfl, rfl, rfl, rfl, rfl, rfl, rfl, rfl, trivial⟩ ?_
                      refine WC.seq fun K72 hK72 => ?_
                      refine WC.region ?_
                      refine WL.pure (v := vI (wn ((s + t : Nat) : Int) (s : Int) m n)) 187 rfl (Nat.le_of_ble_eq_true rfl) rfl rfl (by kernel_rfl) ?_
                      refine WL.pure (v := vI (pd ((s + t : Nat) : Int) (s : Int) (t : Int) (ad ((s + t : Nat) : Int) (s : Int) (t : Int) m + n))) 188 rfl (Nat.le_of_ble_eq_true rfl) rfl rfl (by kernel_rfl) ?_
                      refine WL.pure (v := .bool false) 189 rfl (Nat.le_of_ble_eq_true rfl) rfl rfl (x_neq rfl rfl rfl (dF (fun h => h e4))) ?_
                      refine WL.pure (v := .bool false) 190 rfl (Nat.le_of_ble_eq_true rfl) rfl rfl (by kernel_rfl) ?_
                      refine WL.pure (v := vI (lo ((s + t : Nat) : Int) (s : Int) n)) 191 rfl (Nat.le_of_ble_eq_true rfl) rfl rfl (by kernel_rfl) ?_
                      refine WL.pure (v := vI (mx (wt ((s + t : Nat) : Int) (s : Int) (t : Int) n) j9)) 192 rfl (Nat.le_of_ble_eq_true rfl) rfl rfl (by kernel_rfl) ?_
                      refine WL.pure (v := .bool false) 193 rfl (Nat.le_of_ble_eq_true rfl) rfl rfl (x_neq rfl rfl rfl (dF (fun h => h e5.symm))) ?_
                      refine WL.pure (v := .bool false) 194 rfl (Nat.le_of_ble_eq_true rfl) rfl rfl (by kernel_rfl) ?_
                      refine WL.pure (v := .bool false) 195 rfl (Nat.le_of_ble_eq_true rfl) rfl rfl (by kernel_rfl) ?_
                      refine WL.pure (v := vI 0) 196 rfl (Nat.le_of_ble_eq_true rfl) rfl rfl (by kernel_rfl) ?_
                      refine WL.pure (v := .bool false) 197 rfl (Nat.le_of_ble_eq_true rfl) rfl rfl (x_neq rfl rfl rfl (by decide)) ?_
                      refine WL.pure (v := .bool false) 198 rfl (Nat.le_of_ble_eq_true rfl) rfl rfl (by kernel_rfl) ?_
                      refine WL.pure (v := .bool false) 199 rfl (Nat.le_of_ble_eq_true rfl) rfl rfl (by kernel_rfl) ?_
                      refine WL.pure (v := vI 0) 200 rfl (Nat.le_of_ble_eq_true rfl) rfl rfl (by kernel_rfl) ?_
                      refine WL.pure (v := .bool false) 201 rfl (Nat.le_of_ble_eq_true rfl) rfl rfl (x_neq rfl rfl rfl (by decide)) ?_
                      refine WL.pure (v := .bool false) 202 rfl (Nat.le_of_ble_eq_true rfl) rfl rfl (by kernel_rfl) ?_
                      refine WL.pure (v := .bool false) 203 rfl (Nat.le_of_ble_eq_true rfl) rfl rfl (by kernel_rfl) ?_
                      refine WL.pure (v := vI 0) 204 rfl (Nat.le_of_ble_eq_true rfl) rfl rfl (by kernel_rfl) ?_
                      refine WL.pure (v := .bool false) 205 rfl (Nat.le_of_ble_eq_true rfl) rfl rfl (x_neq rfl rfl rfl (by decide)) ?_
                      refine WL.pure (v := .bool false) 206 rfl (Nat.le_of_ble_eq_true rfl) rfl rfl (by kernel_rfl) ?_
                      refine WL.pure (v := .bool false) 207 rfl (Nat.le_of_ble_eq_true rfl) rfl rfl (by kernel_rfl) ?_
                      refine WL.pure (v := vI 0) 208 rfl (Nat.le_of_ble_eq_true rfl) rfl rfl (by kernel_rfl) ?_
                      refine WL.pure (v := .bool false) 209 rfl (Nat.le_of_ble_eq_true rfl) rfl rfl (x_neq rfl rfl rfl (by decide)) ?_
                      refine WL.pure (v := .bool false) 210 rfl (Nat.le_of_ble_eq_true rfl) rfl rfl (by kernel_rfl) ?_
                      refine WL.nil ?_
                      refine WQ.then ?_
                      refine hK72 _ _ _ ?_
                      refine WC.sub (l' := [(0, .agg #[vI ((s + t : Nat) : Int), vI (s : Int)]), (1, vI W), (2, vI m), (3, vI n), (4, vP b3 0), (8, .bool false), (9, vS bl 2 2), (10, vI (ah ((s + t : Nat) : Int) (s : Int) W)), (11, vI 0), (12, vI (mn (fun x => ad ((s + t : Nat) : Int) (s : Int) (t : Int) (x + W) - ad ((s + t : Nat) : Int) (s : Int) (t : Int) x) j1)), (13, vI 0), (14, vI (ah ((s + t : Nat) : Int) (s : Int) ((s : Int) + W))), (15, vI 0), (16, vI (mx (fun x => ad ((s + t : Nat) : Int) (s : Int) (t : Int) (x + W) - ad ((s + t : Nat) : Int) (s : Int) (t : Int) x) j2)), (17, vI 0), (18, vI (W - ah ((s + t : Nat) : Int) (s : Int) ((s : Int) + W))), (19, vI 0), (20, vI (mn (fun x => ad ((s + t : Nat) : Int) (0 : Int) (s : Int) (x + W) - ad ((s + t : Nat) : Int) (0 : Int) (s : Int) x) j3)), (21, vI 0), (22, vI (wn ((s + t : Nat) : Int) (s : Int) m n)), (23, vI 0), (24, vI (pd ((s + t : Nat) : Int) (s : Int) (t : Int) (ad ((s + t : Nat) : Int) (s : Int) (t : Int) m + n))), (25, vI 0), (26, vI (lo ((s + t : Nat) : Int) (s : Int) n)), (27, vI 0), (28, vI (mx (wt ((s + t : Nat) : Int) (s : Int) (t : Int) n) j9)), (30, vI 0), (51, .bool false), (68, .bool true), (144, .bool false), (158, .bool true), (210, .bool false)]) ⟨rfl, rfl, rfl, rfl, rfl, rfl, rfl, rfl, rfl, rfl, rfl, rfl, rfl, rfl, rfl, rfl, rfl, rfl, rfl, rfl, rfl, rfl, rfl, rfl, rfl, rfl, rfl, rfl, rfl, rfl, rfl, rfl, trivial⟩ ?_
                      refine WC.no rfl ?_
                      refine WC.skip ?_
                      refine WQ.then ?_
                      refine hK54 _ _ _ ?_
                      refine WC.seq fun K73 hK73 => ?_
                      refine WC.region ?_
                      refine WL.call (f := 43) (args := #[]) 211 rfl (Nat.le_of_ble_eq_true rfl) rfl rfl (by kernel_rfl) ?_
                      refine (saneA_any _).mono ?_
                      rintro e w74 ⟨rfl, hb75⟩
                      refine ⟨_, rfl, ?_⟩
                      have hH76 : HP Tr w _ [.cel b3 #[vI ((s + t : Nat) : Int), vI (s : Int)] 23, .cel bl #[vI 0, vI (s : Int), vI 1, vI (t : Int)] 44] := HP.call hH71 hb75
                      refine WL.pure (v := .bool true) 8 rfl (Nat.le_of_ble_eq_true rfl) rfl rfl (by kernel_rfl) ?_
                      refine WL.nil ?_
                      refine WQ.then ?_
                      refine hK73 _ _ _ ?_
                      refine WC.ret ?_
                      refine WQ.ret1 8 rfl rfl ?_
                      exact ⟨rfl, HP.below hH76⟩
                    ·
                      refine WL.pure (v := .bool false) 157 rfl (Nat.le_of_ble_eq_true rfl) rfl rfl (x_leq rfl rfl rfl (dF (hn1))) ?_
                      refine WL.pure (v := .bool false) 158 rfl (Nat.le_of_ble_eq_true rfl) rfl rfl (by kernel_rfl) ?_
                      refine WL.nil ?_
                      refine WQ.then ?_
                      refine hK55 _ _ _ ?_
                      refine WC.sub (l' := [(0, .agg #[vI ((s + t : Nat) : Int), vI (s : Int)]), (1, vI W), (2, vI m), (3, vI n), (4, vP b3 0), (8, .bool false), (9, vS bl 2 2), (10, vI (ah ((s + t : Nat) : Int) (s : Int) W)), (11, vI 0), (12, vI (mn (fun x => ad ((s + t : Nat) : Int) (s : Int) (t : Int) (x + W) - ad ((s + t : Nat) : Int) (s : Int) (t : Int) x) j1)), (13, vI 0), (14, vI (ah ((s + t : Nat) : Int) (s : Int) ((s : Int) + W))), (15, vI 0), (16, vI (mx (fun x => ad ((s + t : Nat) : Int) (s : Int) (t : Int) (x + W) - ad ((s + t : Nat) : Int) (s : Int) (t : Int) x) j2)), (17, vI 0), (18, vI (W - ah ((s + t : Nat) : Int) (s : Int) ((s : Int) + W))), (19, vI 0), (20, vI (mn (fun x => ad ((s + t : Nat) : Int) (0 : Int) (s : Int) (x + W) - ad ((s + t : Nat) : Int) (0 : Int) (s : Int) x) j3)), (21, vI 0), (51, .bool false), (68, .bool true), (144, .bool false), (158, .bool false)]) ⟨rfl, rfl, rfl, rfl, rfl, rfl, rfl, rfl, rfl, rfl, rfl, rfl, rfl, rfl, rfl, rfl, rfl, rfl, rfl, rfl, rfl, rfl, rfl, trivial⟩ ?_
                      refine WC.no rfl ?_
                      refine WC.skip ?_
                      refine WQ.then ?_
                      refine hK54 _ _ _ ?_
                      refine WC.seq fun K77 hK77 => ?_
                      refine WC.region ?_
                      refine WL.call (f := 43) (args := #[]) 211 rfl (Nat.le_of_ble_eq_true rfl) rfl rfl (by kernel_rfl) ?_
                      refine (saneA_any _).mono ?_
                      rintro e w78 ⟨rfl, hb79⟩
                      refine ⟨_, rfl, ?_⟩
                      have hH80 : HP Tr w _ [.cel b3 #[vI ((s + t : Nat) : Int), vI (s : Int)] 23, .cel bl #[vI 0, vI (s : Int), vI 1, vI (t : Int)] 44] := HP.call hH52 hb79
                      refine WL.pure (v := .bool true) 8 rfl (Nat.le_of_ble_eq_true rfl) rfl rfl (by kernel_rfl) ?_
                      refine WL.nil ?_
                      refine WQ.then ?_
                      refine hK77 _ _ _ ?_
                      refine WC.ret ?_
                      refine WQ.ret1 8 rfl rfl ?_
                      exact ⟨rfl, HP.below hH80⟩
                  ·
                    refine WL.pure (v := .bool false) 153 rfl (Nat.le_of_ble_eq_true rfl) rfl rfl (x_geq rfl rfl rfl (dF (hn0))) ?_
                    refine WL.pure (v := .bool false) 154 rfl (Nat.le_of_ble_eq_true rfl) rfl rfl (by kernel_rfl) ?_
                    refine WL.pure (v := .bool false) 155 rfl (Nat.le_of_ble_eq_true rfl) rfl rfl (by kernel_rfl) ?_
                    refine WL.pass 156 rfl (Nat.le_of_ble_eq_true rfl) rfl ?_
                    refine WL.pass 157 rfl (Nat.le_of_ble_eq_true rfl) rfl ?_
                    refine WL.pure (v := .bool false) 158 rfl (Nat.le_of_ble_eq_true rfl) rfl rfl (by kernel_rfl) ?_
                    refine WL.nil ?_
                    refine WQ.then ?_
                    refine hK55 _ _ _ ?_
                    refine WC.sub (l' := [(0, .agg #[vI ((s + t : Nat) : Int), vI (s : Int)]), (1, vI W), (2, vI m), (3, vI n), (4, vP b3 0), (8, .bool false), (9, vS bl 2 2), (10, vI (ah ((s + t : Nat) : Int) (s : Int) W)), (11, vI 0), (12, vI (mn (fun x => ad ((s + t : Nat) : Int) (s : Int) (t : Int) (x + W) - ad ((s + t : Nat) : Int) (s : Int) (t : Int) x) j1)), (13, vI 0), (14, vI (ah ((s + t : Nat) : Int) (s : Int) ((s : Int) + W))), (15, vI 0), (16, vI (mx (fun x => ad ((s + t : Nat) : Int) (s : Int) (t : Int) (x + W) - ad ((s + t : Nat) : Int) (s : Int) (t : Int) x) j2)), (17, vI 0), (18, vI (W - ah ((s + t : Nat) : Int) (s : Int) ((s : Int) + W))), (19, vI 0), (20, vI (mn (fun x => ad ((s + t : Nat) : Int) (0 : Int) (s : Int) (x + W) - ad ((s + t : Nat) : Int) (0 : Int) (s : Int) x) j3)), (21, vI 0), (51, .bool false), (68, .bool true), (144, .bool false), (158, .bool false)]) ⟨rfl, rfl, rfl, rfl, rfl, rfl, rfl, rfl, rfl, rfl, rfl, rfl, rfl, rfl, rfl, rfl, rfl, rfl, rfl, rfl, rfl, rfl, rfl, trivial⟩ ?_
                    refine WC.no rfl ?_
                    refine WC.skip ?_
                    refine WQ.then ?_
                    refine hK54 _ _ _ ?_
                    refine WC.seq fun K81 hK81 => ?_
                    refine WC.region ?_
                    refine WL.call (f := 43) (args := #[]) 211 rfl (Nat.le_of_ble_eq_true rfl) rfl rfl (by kernel_rfl) ?_
                    refine (saneA_any _).mono ?_
                    rintro e w82 ⟨rfl, hb83⟩
                    refine ⟨_, rfl, ?_⟩
                    have hH84 : HP Tr w _ [.cel b3 #[vI ((s + t : Nat) : Int), vI (s : Int)] 23, .cel bl #[vI 0, vI (s : Int), vI 1, vI (t : Int)] 44] := HP.call hH52 hb83
                    refine WL.pure (v := .bool true) 8 rfl (Nat.le_of_ble_eq_true rfl) rfl rfl (by kernel_rfl) ?_
                    refine WL.nil ?_
                    refine WQ.then ?_
                    refine hK81 _ _ _ ?_
                    refine WC.ret ?_
                    refine WQ.ret1 8 rfl rfl ?_
                    exact ⟨rfl, HP.below hH84⟩
                ·
                  refine WL.pure (v := .bool false) 149 rfl (Nat.le_of_ble_eq_true rfl) rfl rfl (x_leq rfl rfl rfl (dF (hf1))) ?_
                  refine WL.pure (v := .bool false) 150 rfl (Nat.le_of_ble_eq_true rfl) rfl rfl (by kernel_rfl) ?_
                  refine WL.pure (v := .bool false) 151 rfl (Nat.le_of_ble_eq_true rfl) rfl rfl (by kernel_rfl) ?_
                  refine WL.pass 152 rfl (Nat.le_of_ble_eq_true rfl) rfl ?_
                  refine WL.pass 153 rfl (Nat.le_of_ble_eq_true rfl) rfl ?_
                  refine WL.pure (v := .bool false) 154 rfl (Nat.le_of_ble_eq_true rfl) rfl rfl (by kernel_rfl) ?_
                  refine WL.pure (v := .bool false) 155 rfl (Nat.le_of_ble_eq_true rfl) rfl rfl (by kernel_rfl) ?_
                  refine WL.pass 156 rfl (Nat.le_of_ble_eq_true rfl) rfl ?_
                  refine WL.pass 157 rfl (Nat.le_of_ble_eq_true rfl) rfl ?_
                  refine WL.pure (v := .bool false) 158 rfl (Nat.le_of_ble_eq_true rfl) rfl rfl (by kernel_rfl) ?_
                  refine WL.nil ?_
                  refine WQ.then ?_
                  refine hK55 _ _ _ ?_
                  refine WC.sub (l' := [(0, .agg #[vI ((s + t : Nat) : Int), vI (s : Int)]), (1, vI W), (2, vI m), (3, vI n), (4, vP b3 0), (8, .bool false), (9, vS bl 2 2), (10, vI (ah ((s + t : Nat) : Int) (s : Int) W)), (11, vI 0), (12, vI (mn (fun x => ad ((s + t : Nat) : Int) (s : Int) (t : Int) (x + W) - ad ((s + t : Nat) : Int) (s : Int) (t : Int) x) j1)), (13, vI 0), (14, vI (ah ((s + t : Nat) : Int) (s : Int) ((s : Int) + W))), (15, vI 0), (16, vI (mx (fun x => ad ((s + t : Nat) : Int) (s : Int) (t : Int) (x + W) - ad ((s + t : Nat) : Int) (s : Int) (t : Int) x) j2)), (17, vI 0), (18, vI (W - ah ((s + t : Nat) : Int) (s : Int) ((s : Int) + W))), (19, vI 0), (20, vI (mn (fun x => ad ((s + t : Nat) : Int) (0 : Int) (s : Int) (x + W) - ad ((s + t : Nat) : Int) (0 : Int) (s : Int) x) j3)), (21, vI 0), (51, .bool false), (68, .bool true), (144, .bool false), (158, .bool false)]) ⟨rfl, rfl, rfl, rfl, rfl, rfl, rfl, rfl, rfl, rfl, rfl, rfl, rfl, rfl, rfl, rfl, rfl, rfl, rfl, rfl, rfl, rfl, rfl, trivial⟩ ?_
                  refine WC.no rfl ?_
                  refine WC.skip ?_
                  refine WQ.then ?_
                  refine hK54 _ _ _ ?_
                  refine WC.seq fun K85 hK85 => ?_
                  refine WC.region ?_
                  refine WL.call (f := 43) (args := #[]) 211 rfl (Nat.le_of_ble_eq_true rfl) rfl rfl (by kernel_rfl) ?_
                  refine (saneA_any _).mono ?_
                  rintro e w86 ⟨rfl, hb87⟩
                  refine ⟨_, rfl, ?_⟩
                  have hH88 : HP Tr w _ [.cel b3 #[vI ((s + t : Nat) : Int), vI (s : Int)] 23, .cel bl #[vI 0, vI (s : Int), vI 1, vI (t : Int)] 44] := HP.call hH52 hb87
                  refine WL.pure (v := .bool true) 8 rfl (Nat.le_of_ble_eq_true rfl) rfl rfl (by kernel_rfl) ?_
                  refine WL.nil ?_
                  refine WQ.then ?_
                  refine hK85 _ _ _ ?_
                  refine WC.ret ?_
                  refine WQ.ret1 8 rfl rfl ?_
                  exact ⟨rfl, HP.below hH88⟩
              ·
                refine WL.pure (v := .bool false) 146 rfl (Nat.le_of_ble_eq_true rfl) rfl rfl (x_geq rfl rfl rfl (dF (hf0))) ?_
                refine WL.pure (v := .bool false) 147 rfl (Nat.le_of_ble_eq_true rfl) rfl rfl (by kernel_rfl) ?_
                refine WL.pass 148 rfl (Nat.le_of_ble_eq_true rfl) rfl ?_
                refine WL.pass 149 rfl (Nat.le_of_ble_eq_true rfl) rfl ?_
                refine WL.pure (v := .bool false) 150 rfl (Nat.le_of_ble_eq_true rfl) rfl rfl (by kernel_rfl) ?_
                refine WL.pure (v := .bool false) 151 rfl (Nat.le_of_ble_eq_true rfl) rfl rfl (by kernel_rfl) ?_
                refine WL.pass 152 rfl (Nat.le_of_ble_eq_true rfl) rfl ?_
                refine WL.pass 153 rfl (Nat.le_of_ble_eq_true rfl) rfl ?_
                refine WL.pure (v := .bool false) 154 rfl (Nat.le_of_ble_eq_true rfl) rfl rfl (by kernel_rfl) ?_
                refine WL.pure (v := .bool false) 155 rfl (Nat.le_of_ble_eq_true rfl) rfl rfl (by kernel_rfl) ?_
                refine WL.pass 156 rfl (Nat.le_of_ble_eq_true rfl) rfl ?_
                refine WL.pass 157 rfl (Nat.le_of_ble_eq_true rfl) rfl ?_
                refine WL.pure (v := .bool false) 158 rfl (Nat.le_of_ble_eq_true rfl) rfl rfl (by kernel_rfl) ?_
                refine WL.nil ?_
                refine WQ.then ?_
                refine hK55 _ _ _ ?_
                refine WC.sub (l' := [(0, .agg #[vI ((s + t : Nat) : Int), vI (s : Int)]), (1, vI W), (2, vI m), (3, vI n), (4, vP b3 0), (8, .bool false), (9, vS bl 2 2), (10, vI (ah ((s + t : Nat) : Int) (s : Int) W)), (11, vI 0), (12, vI (mn (fun x => ad ((s + t : Nat) : Int) (s : Int) (t : Int) (x + W) - ad ((s + t : Nat) : Int) (s : Int) (t : Int) x) j1)), (13, vI 0), (14, vI (ah ((s + t : Nat) : Int) (s : Int) ((s : Int) + W))), (15, vI 0), (16, vI (mx (fun x => ad ((s + t : Nat) : Int) (s : Int) (t : Int) (x + W) - ad ((s + t : Nat) : Int) (s : Int) (t : Int) x) j2)), (17, vI 0), (18, vI (W - ah ((s + t : Nat) : Int) (s : Int) ((s : Int) + W))), (19, vI 0), (20, vI (mn (fun x => ad ((s + t : Nat) : Int) (0 : Int) (s : Int) (x + W) - ad ((s + t : Nat) : Int) (0 : Int) (s : Int) x) j3)), (21, vI 0), (51, .bool false), (68, .bool true), (144, .bool false), (158, .bool false)]) ⟨rfl, rfl, rfl, rfl, rfl, rfl, rfl, rfl, rfl, rfl, rfl, rfl, rfl, rfl, rfl, rfl, rfl, rfl, rfl, rfl, rfl, rfl, rfl, trivial⟩ ?_
                refine WC.no rfl ?_
                refine WC.skip ?_
                refine WQ.then ?_
                refine hK54 _ _ _ ?_
                refine WC.seq fun K89 hK89 => ?_
                refine WC.region ?_
                refine WL.call (f := 43) (args := #[]) 211 rfl (Nat.le_of_ble_eq_true rfl) rfl rfl (by kernel_rfl) ?_
                refine (saneA_any _).mono ?_
                rintro e w90 ⟨rfl, hb91⟩
                refine ⟨_, rfl, ?_⟩
                have hH92 : HP Tr w _ [.cel b3 #[vI ((s + t : Nat) : Int), vI (s : Int)] 23, .cel bl #[vI 0, vI (s : Int), vI 1, vI (t : Int)] 44] := HP.call hH52 hb91
                refine WL.pure (v := .bool true) 8 rfl (Nat.le_of_ble_eq_true rfl) rfl rfl (by kernel_rfl) ?_
                refine WL.nil ?_
                refine WQ.then ?_
                refine hK89 _ _ _ ?_
                refine WC.ret ?_
                refine WQ.ret1 8 rfl rfl ?_
                exact ⟨rfl, HP.below hH92⟩
            ·
              refine WL.pure (v := .bool false) 67 rfl (Nat.le_of_ble_eq_true rfl) rfl rfl (x_leq rfl rfl rfl (dF (hw1))) ?_
              refine WL.pure (v := .bool false) 68 rfl (Nat.le_of_ble_eq_true rfl) rfl rfl (by kernel_rfl) ?_
              refine WL.nil ?_
              refine WQ.then ?_
              refine hK28 _ _ _ ?_
              refine WC.no rfl ?_
              refine WC.skip ?_
              refine WQ.then ?_
              refine hK27 _ _ _ ?_
              refine WC.seq fun K93 hK93 => ?_
              refine WC.seq fun K94 hK94 => ?_
              refine WC.region ?_
              refine WL.pure (v := vI m) 145 rfl (Nat.le_of_ble_eq_true rfl) rfl rfl (by kernel_rfl) ?_
              by_cases hf0 : (0 : Int) ≤ m
              ·
                refine WL.pure (v := .bool true) 146 rfl (Nat.le_of_ble_eq_true rfl) rfl rfl (x_geq rfl rfl rfl (dT (hf0))) ?_
                refine WL.pure (v := .bool true) 147 rfl (Nat.le_of_ble_eq_true rfl) rfl rfl (by kernel_rfl) ?_
                refine WL.pure (v := vI m) 148 rfl (Nat.le_of_ble_eq_true rfl) rfl rfl (by kernel_rfl) ?_
                by_cases hf1 : m ≤ 10000
                ·
                  refine WL.pure (v := .bool true) 149 rfl (Nat.le_of_ble_eq_true rfl) rfl rfl (x_leq rfl rfl rfl (dT (hf1))) ?_
                  refine WL.pure (v := .bool true) 150 rfl (Nat.le_of_ble_eq_true rfl) rfl rfl (by kernel_rfl) ?_
                  refine WL.pure (v := .bool true) 151 rfl (Nat.le_of_ble_eq_true rfl) rfl rfl (by kernel_rfl) ?_
                  refine WL.pure (v := vI n) 152 rfl (Nat.le_of_ble_eq_true rfl) rfl rfl (by kernel_rfl) ?_
                  by_cases hn0 : (1 : Int) ≤ n
                  ·
                    refine WL.pure (v := .bool true) 153 rfl (Nat.le_of_ble_eq_true rfl) rfl rfl (x_geq rfl rfl rfl (dT (hn0))) ?_
                    refine WL.pure (v := .bool true) 154 rfl (Nat.le_of_ble_eq_true rfl) rfl rfl (by kernel_rfl) ?_
                    refine WL.pure (v := .bool true) 155 rfl (Nat.le_of_ble_eq_true rfl) rfl rfl (by kernel_rfl) ?_
                    refine WL.pure (v := vI n) 156 rfl (Nat.le_of_ble_eq_true rfl) rfl rfl (by kernel_rfl) ?_
                    by_cases hn1 : n ≤ 100
                    ·
                      refine WL.pure (v := .bool true) 157 rfl (Nat.le_of_ble_eq_true rfl) rfl rfl (x_leq rfl rfl rfl (dT (hn1))) ?_
                      refine WL.pure (v := .bool true) 158 rfl (Nat.le_of_ble_eq_true rfl) rfl rfl (by kernel_rfl) ?_
                      refine WL.nil ?_
                      refine WQ.then ?_
                      refine hK94 _ _ _ ?_
                      refine WC.sub (l' := [(0, .agg #[vI ((s + t : Nat) : Int), vI (s : Int)]), (1, vI W), (2, vI m), (3, vI n), (4, vP b3 0), (8, .bool false), (9, vS bl 2 2), (51, .bool false), (68, .bool false), (158, .bool true)]) ⟨rfl, rfl, rfl, rfl, rfl, rfl, rfl, rfl, rfl, rfl, trivial⟩ ?_
                      refine WC.yes rfl ?_
                      refine WC.seq fun K95 hK95 => ?_
                      refine WC.region ?_
                      refine WL.pure (v := .agg #[vI ((s + t : Nat) : Int), vI (s : Int)]) 160 rfl (Nat.le_of_ble_eq_true rfl) rfl rfl (x_loadS (cs := [vI ((s + t : Nat) : Int), vI (s : Int)]) rfl rfl Try.underlying23 rfl sz23 (HP.range hH26 0 rfl rfl)) ?_
                      refine WL.pure (v := vI m) 161 rfl (Nat.le_of_ble_eq_true rfl) rfl rfl (by kernel_rfl) ?_
                      refine WL.pure (v := vI n) 162 rfl (Nat.le_of_ble_eq_true rfl) rfl rfl (by kernel_rfl) ?_
                      refine WL.call (f := 25) (args := #[.agg #[vI ((s + t : Nat) : Int), vI (s : Int)], vI m, vI n]) 163 rfl (Nat.le_of_ble_eq_true rfl) rfl rfl (by kernel_rfl) ?_
                      refine (when_ok ((s + t : Nat) : Int) (s : Int) m n _ hv (by omega) (by omega) (by omega) (by omega)).mono ?_
                      rintro e w96 ⟨rfl, hb97⟩
                      refine ⟨_, rfl, ?_⟩
                      have hH98 : HP Tr w _ [.cel b3 #[vI ((s + t : Nat) : Int), vI (s : Int)] 23, .cel bl #[vI 0, vI (s : Int), vI 1, vI (t : Int)] 44] := HP.call hH26 hb97
                      refine WL.pure (v := .tuple #[vI (wn ((s + t : Nat) : Int) (s : Int) m n), vI 0]) 159 rfl (Nat.le_of_ble_eq_true rfl) rfl rfl (by kernel_rfl) ?_
                      refine WL.pure (v := vI (wn ((s + t : Nat) : Int) (s : Int) m n)) 164 rfl (Nat.le_of_ble_eq_true rfl) rfl rfl (by kernel_rfl) ?_
                      refine WL.pure (v := vI 0) 165 rfl (Nat.le_of_ble_eq_true rfl) rfl rfl (by kernel_rfl) ?_
                      refine WL.pure (v := vI (wn ((s + t : Nat) : Int) (s : Int) m n)) 22 rfl (Nat.le_of_ble_eq_true rfl) rfl rfl (by kernel_rfl) ?_
                      refine WL.pure (v := vI 0) 23 rfl (Nat.le_of_ble_eq_true rfl) rfl rfl (by kernel_rfl) ?_
                      refine WL.nil ?_
                      refine WQ.then ?_
                      refine hK95 _ _ _ ?_
                      refine WC.sub (l' := [(0, .agg #[vI ((s + t : Nat) : Int), vI (s : Int)]), (1, vI W), (2, vI m), (3, vI n), (4, vP b3 0), (8, .bool false), (9, vS bl 2 2), (22, vI (wn ((s + t : Nat) : Int) (s : Int) m n)), (23, vI 0), (51, .bool false), (68, .bool false), (158, .bool true)]) ⟨rfl, rfl, rfl, rfl, rfl, rfl, rfl, rfl, rfl, rfl, rfl, rfl, trivial⟩ ?_
                      refine WC.seq fun K99 hK99 => ?_
                      refine WC.region ?_
                      refine WL.pure (v := vS bl 2 2) 167 rfl (Nat.le_of_ble_eq_true rfl) rfl rfl (by kernel_rfl) ?_
                      refine WL.pure (v := vI m) 168 rfl (Nat.le_of_ble_eq_true rfl) rfl rfl (by kernel_rfl) ?_
                      refine WL.pure (v := vI n) 169 rfl (Nat.le_of_ble_eq_true rfl) rfl rfl (by kernel_rfl) ?_
                      refine WL.pure (v := .agg #[vI 1, vI m, vI n]) 170 rfl (Nat.le_of_ble_eq_true rfl) rfl rfl (by kernel_rfl) ?_
                      refine WL.call (f := 46) (args := #[vS bl 2 2, .agg #[vI 1, vI m, vI n]]) 171 rfl (Nat.le_of_ble_eq_true rfl) rfl rfl (by kernel_rfl) ?_
                      refine (bEnd_any _ _ s t m n _ (LR_of hH98 1 rfl) hs ht (by omega) (by omega) (by omega) (by omega)).mono ?_
                      rintro e w100 ⟨rfl, hb101⟩
                      refine ⟨_, rfl, ?_⟩
                      have hH102 : HP Tr w _ [.cel b3 #[vI ((s + t : Nat) : Int), vI (s : Int)] 23, .cel bl #[vI 0, vI (s : Int), vI 1, vI (t : Int)] 44] := HP.call hH98 hb101
                      have e4 : wn ((s + t : Nat) : Int) (s : Int) m n = pd ((s + t : Nat) : Int) (s : Int) (t : Int) (ad ((s + t : Nat) : Int) (s : Int) (t : Int) m + n) := by
                        have q := ad_ah ((s + t : Nat) : Int) (s : Int) m (by omega) (by omega) (by omega)
                        rw [show ((s + t : Nat) : Int) - (s : Int) = (t : Int) by omega] at q
                        unfold wn pl; rw [if_neg (by omega), ← q, show ((s + t : Nat) : Int) - (s : Int) = (t : Int) by omega]; rfl
                      refine WL.pure (v := .tuple #[vI (pd ((s + t : Nat) : Int) (s : Int) (t : Int) (ad ((s + t : Nat) : Int) (s : Int) (t : Int) m + n)), vI 0]) 166 rfl (Nat.le_of_ble_eq_true rfl) rfl rfl (by kernel_rfl) ?_
                      refine WL.pure (v := vI (pd ((s + t : Nat) : Int) (s : Int) (t : Int) (ad ((s + t : Nat) : Int) (s : Int) (t : Int) m + n))) 172 rfl (Nat.le_of_ble_eq_true rfl) rfl rfl (by kernel_rfl) ?_
                      refine WL.pure (v := vI 0) 173 rfl (Nat.le_of_ble_eq_true rfl) rfl rfl (by kernel_rfl) ?_
                      refine WL.pure (v := vI (pd ((s + t : Nat) : Int) (s : Int) (t : Int) (ad ((s + t : Nat) : Int) (s : Int) (t : Int) m + n))) 24 rfl (Nat.le_of_ble_eq_true rfl) rfl rfl (by kernel_rfl) ?_
                      refine WL.pure (v := vI 0) 25 rfl (Nat.le_of_ble_eq_true rfl) rfl rfl (by kernel_rfl) ?_
                      refine WL.nil ?_
                      refine WQ.then ?_
                      refine hK99 _ _ _ ?_
                      refine WC.sub (l' := [(0, .agg #[vI ((s + t : Nat) : Int), vI (s : Int)]), (1, vI W), (2, vI m), (3, vI n), (4, vP b3 0), (8, .bool false), (9, vS bl 2 2), (22, vI (wn ((s + t : Nat) : Int) (s : Int) m n)), (23, vI 0), (24, vI (pd ((s + t : Nat) : Int) (s : Int) (t : Int) (ad ((s + t : Nat) : Int) (s : Int) (t : Int) m + n))), (25, vI 0), (51, .bool false), (68, .bool false), (158, .bool true)]) ⟨rfl, rfl, rfl, rfl, rfl, rfl, rfl, rfl, rfl, rfl, rfl, rfl, rfl, rfl, trivial⟩ ?_
                      refine WC.seq fun K103 hK103 => ?_
                      refine WC.region ?_
                      refine WL.pure (v := .agg #[vI ((s + t : Nat) : Int), vI (s : Int)]) 175 rfl (Nat.le_of_ble_eq_true rfl) rfl rfl (x_loadS (cs := [vI ((s + t : Nat) : Int), vI (s : Int)]) rfl rfl Try.underlying23 rfl sz23 (HP.range hH102 0 rfl rfl)) ?_
                      refine WL.pure (v := vI n) 176 rfl (Nat.le_of_ble_eq_true rfl) rfl rfl (by kernel_rfl) ?_
                      refine WL.call (f := 19) (args := #[.agg #[vI ((s + t : Nat) : Int), vI (s : Int)], vI n]) 177 rfl (Nat.le_of_ble_eq_true rfl) rfl rfl (by kernel_rfl) ?_
                      refine (longest_ok ((s + t : Nat) : Int) (s : Int) n _ hv (by omega) (by omega)).mono ?_
                      rintro e w104 ⟨rfl, hb105⟩
                      refine ⟨_, rfl, ?_⟩
                      have hH106 : HP Tr w _ [.cel b3 #[vI ((s + t : Nat) : Int), vI (s : Int)] 23, .cel bl #[vI 0, vI (s : Int), vI 1, vI (t : Int)] 44] := HP.call hH102 hb105
                      refine WL.pure (v := .tuple #[vI (lo ((s + t : Nat) : Int) (s : Int) n), vI 0]) 174 rfl (Nat.le_of_ble_eq_true rfl) rfl rfl (by kernel_rfl) ?_
                      refine WL.pure (v := vI (lo ((s + t : Nat) : Int) (s : Int) n)) 178 rfl (Nat.le_of_ble_eq_true rfl) rfl rfl (by kernel_rfl) ?_
                      refine WL.pure (v := vI 0) 179 rfl (Nat.le_of_ble_eq_true rfl) rfl rfl (by kernel_rfl) ?_
                      refine WL.pure (v := vI (lo ((s + t : Nat) : Int) (s : Int) n)) 26 rfl (Nat.le_of_ble_eq_true rfl) rfl rfl (by kernel_rfl) ?_
                      refine WL.pure (v := vI 0) 27 rfl (Nat.le_of_ble_eq_true rfl) rfl rfl (by kernel_rfl) ?_
                      refine WL.nil ?_
                      refine WQ.then ?_
                      refine hK103 _ _ _ ?_
                      refine WC.sub (l' := [(0, .agg #[vI ((s + t : Nat) : Int), vI (s : Int)]), (1, vI W), (2, vI m), (3, vI n), (4, vP b3 0), (8, .bool false), (9, vS bl 2 2), (22, vI (wn ((s + t : Nat) : Int) (s : Int) m n)), (23, vI 0), (24, vI (pd ((s + t : Nat) : Int) (s : Int) (t : Int) (ad ((s + t : Nat) : Int) (s : Int) (t : Int) m + n))), (25, vI 0), (26, vI (lo ((s + t : Nat) : Int) (s : Int) n)), (27, vI 0), (51, .bool false), (68, .bool false), (158, .bool true)]) ⟨rfl, rfl, rfl, rfl, rfl, rfl, rfl, rfl, rfl, rfl, rfl, rfl, rfl, rfl, rfl, rfl, trivial⟩ ?_
                      refine WC.seq fun K107 hK107 => ?_
                      refine WC.region ?_
                      refine WL.pure (v := vS bl 2 2) 181 rfl (Nat.le_of_ble_eq_true rfl) rfl rfl (by kernel_rfl) ?_
                      refine WL.pure (v := vI n) 182 rfl (Nat.le_of_ble_eq_true rfl) rfl rfl (by kernel_rfl) ?_
                      refine WL.call (f := 47) (args := #[vS bl 2 2, vI 1, vI n]) 183 rfl (Nat.le_of_ble_eq_true rfl) rfl rfl (by kernel_rfl) ?_
                      refine (worst_any _ _ s t n _ (LR_of hH106 1 rfl) hs ht (by omega) (by omega)).mono ?_
                      rintro e w108 ⟨j9, mm, hj9, rfl, hb109⟩
                      refine ⟨_, rfl, ?_⟩
                      have hH110 : HP Tr w _ [.cel b3 #[vI ((s + t : Nat) : Int), vI (s : Int)] 23, .cel bl #[vI 0, vI (s : Int), vI 1, vI (t : Int)] 44] := HP.call hH106 hb109
                      have e5 := longest_eq ((s + t : Nat) : Int) (s : Int) n j9 (by omega) (by omega) (by omega)
                      rw [show ((s + t : Nat) : Int) - (s : Int) = (t : Int) by omega] at e5
                      refine WL.pure (v := .tuple #[vI (mx (wt ((s + t : Nat) : Int) (s : Int) (t : Int) n) j9), vI mm, vI 0]) 180 rfl (Nat.le_of_ble_eq_true rfl) rfl rfl (by kernel_rfl) ?_
                      refine WL.pure (v := vI (mx (wt ((s + t : Nat) : Int) (s : Int) (t : Int) n) j9)) 184 rfl (Nat.le_of_ble_eq_true rfl) rfl rfl (by kernel_rfl) ?_
                      refine WL.pure (v := vI mm) 185 rfl (Nat.le_of_ble_eq_true rfl) rfl rfl (by kernel_rfl) ?_
                      refine WL.pure (v := vI 0) 186 rfl (Nat.le_of_ble_eq_true rfl) rfl rfl (by kernel_rfl) ?_
                      refine WL.pure (v := vI (mx (wt ((s + t : Nat) : Int) (s : Int) (t : Int) n) j9)) 28 rfl (Nat.le_of_ble_eq_true rfl) rfl rfl (by kernel_rfl) ?_
                      refine WL.pure (v := vI mm) 29 rfl (Nat.le_of_ble_eq_true rfl) rfl rfl (by kernel_rfl) ?_
                      refine WL.pure (v := vI 0) 30 rfl (Nat.le_of_ble_eq_true rfl) rfl rfl (by kernel_rfl) ?_
                      refine WL.nil ?_
                      refine WQ.then ?_
                      refine hK107 _ _ _ ?_
                      refine WC.sub (l' := [(0, .agg #[vI ((s + t : Nat) : Int), vI (s : Int)]), (1, vI W), (2, vI m), (3, vI n), (4, vP b3 0), (8, .bool false), (9, vS bl 2 2), (22, vI (wn ((s + t : Nat) : Int) (s : Int) m n)), (23, vI 0), (24, vI (pd ((s + t : Nat) : Int) (s : Int) (t : Int) (ad ((s + t : Nat) : Int) (s : Int) (t : Int) m + n))), (25, vI 0), (26, vI (lo ((s + t : Nat) : Int) (s : Int) n)), (27, vI 0), (28, vI (mx (wt ((s + t : Nat) : Int) (s : Int) (t : Int) n) j9)), (30, vI 0), (51, .bool false), (68, .bool false), (158, .bool true)]) ⟨rfl, rfl, rfl, rfl, rfl, rfl, rfl, rfl, rfl, rfl, rfl, rfl, rfl, rfl, rfl, rfl, rfl, rfl, trivial⟩ ?_
                      refine WC.seq fun K111 hK111 => ?_
                      refine WC.region ?_
                      refine WL.pure (v := vI (wn ((s + t : Nat) : Int) (s : Int) m n)) 187 rfl (Nat.le_of_ble_eq_true rfl) rfl rfl (by kernel_rfl) ?_
                      refine WL.pure (v := vI (pd ((s + t : Nat) : Int) (s : Int) (t : Int) (ad ((s + t : Nat) : Int) (s : Int) (t : Int) m + n))) 188 rfl (Nat.le_of_ble_eq_true rfl) rfl rfl (by kernel_rfl) ?_
                      refine WL.pure (v := .bool false) 189 rfl (Nat.le_of_ble_eq_true rfl) rfl rfl (x_neq rfl rfl rfl (dF (fun h => h e4))) ?_
                      refine WL.pure (v := .bool false) 190 rfl (Nat.le_of_ble_eq_true rfl) rfl rfl (by kernel_rfl) ?_
                      refine WL.pure (v := vI (lo ((s + t : Nat) : Int) (s : Int) n)) 191 rfl (Nat.le_of_ble_eq_true rfl) rfl rfl (by kernel_rfl) ?_
                      refine WL.pure (v := vI (mx (wt ((s + t : Nat) : Int) (s : Int) (t : Int) n) j9)) 192 rfl (Nat.le_of_ble_eq_true rfl) rfl rfl (by kernel_rfl) ?_
                      refine WL.pure (v := .bool false) 193 rfl (Nat.le_of_ble_eq_true rfl) rfl rfl (x_neq rfl rfl rfl (dF (fun h => h e5.symm))) ?_
                      refine WL.pure (v := .bool false) 194 rfl (Nat.le_of_ble_eq_true rfl) rfl rfl (by kernel_rfl) ?_
                      refine WL.pure (v := .bool false) 195 rfl (Nat.le_of_ble_eq_true rfl) rfl rfl (by kernel_rfl) ?_
                      refine WL.pure (v := vI 0) 196 rfl (Nat.le_of_ble_eq_true rfl) rfl rfl (by kernel_rfl) ?_
                      refine WL.pure (v := .bool false) 197 rfl (Nat.le_of_ble_eq_true rfl) rfl rfl (x_neq rfl rfl rfl (by decide)) ?_
                      refine WL.pure (v := .bool false) 198 rfl (Nat.le_of_ble_eq_true rfl) rfl rfl (by kernel_rfl) ?_
                      refine WL.pure (v := .bool false) 199 rfl (Nat.le_of_ble_eq_true rfl) rfl rfl (by kernel_rfl) ?_
                      refine WL.pure (v := vI 0) 200 rfl (Nat.le_of_ble_eq_true rfl) rfl rfl (by kernel_rfl) ?_
                      refine WL.pure (v := .bool false) 201 rfl (Nat.le_of_ble_eq_true rfl) rfl rfl (x_neq rfl rfl rfl (by decide)) ?_
                      refine WL.pure (v := .bool false) 202 rfl (Nat.le_of_ble_eq_true rfl) rfl rfl (by kernel_rfl) ?_
                      refine WL.pure (v := .bool false) 203 rfl (Nat.le_of_ble_eq_true rfl) rfl rfl (by kernel_rfl) ?_
                      refine WL.pure (v := vI 0) 204 rfl (Nat.le_of_ble_eq_true rfl) rfl rfl (by kernel_rfl) ?_
                      refine WL.pure (v := .bool false) 205 rfl (Nat.le_of_ble_eq_true rfl) rfl rfl (x_neq rfl rfl rfl (by decide)) ?_
                      refine WL.pure (v := .bool false) 206 rfl (Nat.le_of_ble_eq_true rfl) rfl rfl (by kernel_rfl) ?_
                      refine WL.pure (v := .bool false) 207 rfl (Nat.le_of_ble_eq_true rfl) rfl rfl (by kernel_rfl) ?_
                      refine WL.pure (v := vI 0) 208 rfl (Nat.le_of_ble_eq_true rfl) rfl rfl (by kernel_rfl) ?_
                      refine WL.pure (v := .bool false) 209 rfl (Nat.le_of_ble_eq_true rfl) rfl rfl (x_neq rfl rfl rfl (by decide)) ?_
                      refine WL.pure (v := .bool false) 210 rfl (Nat.le_of_ble_eq_true rfl) rfl rfl (by kernel_rfl) ?_
                      refine WL.nil ?_
                      refine WQ.then ?_
                      refine hK111 _ _ _ ?_
                      refine WC.sub (l' := [(0, .agg #[vI ((s + t : Nat) : Int), vI (s : Int)]), (1, vI W), (2, vI m), (3, vI n), (4, vP b3 0), (8, .bool false), (9, vS bl 2 2), (22, vI (wn ((s + t : Nat) : Int) (s : Int) m n)), (23, vI 0), (24, vI (pd ((s + t : Nat) : Int) (s : Int) (t : Int) (ad ((s + t : Nat) : Int) (s : Int) (t : Int) m + n))), (25, vI 0), (26, vI (lo ((s + t : Nat) : Int) (s : Int) n)), (27, vI 0), (28, vI (mx (wt ((s + t : Nat) : Int) (s : Int) (t : Int) n) j9)), (30, vI 0), (51, .bool false), (68, .bool false), (158, .bool true), (210, .bool false)]) ⟨rfl, rfl, rfl, rfl, rfl, rfl, rfl, rfl, rfl, rfl, rfl, rfl, rfl, rfl, rfl, rfl, rfl, rfl, rfl, trivial⟩ ?_
                      refine WC.no rfl ?_
                      refine WC.skip ?_
                      refine WQ.then ?_
                      refine hK93 _ _ _ ?_
                      refine WC.seq fun K112 hK112 => ?_
                      refine WC.region ?_
                      refine WL.call (f := 43) (args := #[]) 211 rfl (Nat.le_of_ble_eq_true rfl) rfl rfl (by kernel_rfl) ?_
                      refine (saneA_any _).mono ?_
                      rintro e w113 ⟨rfl, hb114⟩
                      refine ⟨_, rfl, ?_⟩
                      have hH115 : HP Tr w _ [.cel b3 #[vI ((s + t : Nat) : Int), vI (s : Int)] 23, .cel bl #[vI 0, vI (s : Int), vI 1, vI (t : Int)] 44] := HP.call hH110 hb114
                      refine WL.pure (v := .bool true) 8 rfl (Nat.le_of_ble_eq_true rfl) rfl rfl (by kernel_rfl) ?_
                      refine WL.nil ?_
                      refine WQ.then ?_
                      refine hK112 _ _ _ ?_
                      refine WC.ret ?_
                      refine WQ.ret1 8 rfl rfl ?_
                      exact ⟨rfl, HP.below hH115⟩
                    ·
                      refine WL.pure (v := .bool false) 157 rfl (Nat.le_of_ble_eq_true rfl) rfl rfl (x_leq rfl rfl rfl (dF (hn1))) ?_
                      refine WL.pure (v := .bool false) 158 rfl (Nat.le_of_ble_eq_true rfl) rfl rfl (by kernel_rfl) ?_
                      refine WL.nil ?_
                      refine WQ.then ?_
                      refine hK94 _ _ _ ?_
                      refine WC.sub (l' := [(0, .agg #[vI ((s + t : Nat) : Int), vI (s : Int)]), (1, vI W), (2, vI m), (3, vI n), (4, vP b3 0), (8, .bool false), (9, vS bl 2 2), (51, .bool false), (68, .bool false), (158, .bool false)]) ⟨rfl, rfl, rfl, rfl, rfl, rfl, rfl, rfl, rfl, rfl, trivial⟩ ?_
                      refine WC.no rfl ?_
                      refine WC.skip ?_
                      refine WQ.then ?_
                      refine hK93 _ _ _ ?_
                      refine WC.seq fun K116 hK116 => ?_
                      refine WC.region ?_
                      refine WL.call (f := 43) (args := #[]) 211 rfl (Nat.le_of_ble_eq_true rfl) rfl rfl (by kernel_rfl) ?_
                      refine (saneA_any _).mono ?_
                      rintro e w117 ⟨rfl, hb118⟩
                      refine ⟨_, rfl, ?_⟩
                      have hH119 : HP Tr w _ [.cel b3 #[vI ((s + t : Nat) : Int), vI (s : Int)] 23, .cel bl #[vI 0, vI (s : Int), vI 1, vI (t : Int)] 44] := HP.call hH26 hb118
                      refine WL.pure (v := .bool true) 8 rfl (Nat.le_of_ble_eq_true rfl) rfl rfl (by kernel_rfl) ?_
                      refine WL.nil ?_
                      refine WQ.then ?_
                      refine hK116 _ _ _ ?_
                      refine WC.ret ?_
                      refine WQ.ret1 8 rfl rfl ?_
                      exact ⟨rfl, HP.below hH119⟩
                  ·
                    refine WL.pure (v := .bool false) 153 rfl (Nat.le_of_ble_eq_true rfl) rfl rfl (x_geq rfl rfl rfl (dF (hn0))) ?_
                    refine WL.pure (v := .bool false) 154 rfl (Nat.le_of_ble_eq_true rfl) rfl rfl (by kernel_rfl) ?_
                    refine WL.pure (v := .bool false) 155 rfl (Nat.le_of_ble_eq_true rfl) rfl rfl (by kernel_rfl) ?_
                    refine WL.pass 156 rfl (Nat.le_of_ble_eq_true rfl) rfl ?_
                    refine WL.pass 157 rfl (Nat.le_of_ble_eq_true rfl) rfl ?_
                    refine WL.pure (v := .bool false) 158 rfl (Nat.le_of_ble_eq_true rfl) rfl rfl (by kernel_rfl) ?_
                    refine WL.nil ?_
                    refine WQ.then ?_
                    refine hK94 _ _ _ ?_
                    refine WC.sub (l' := [(0, .agg #[vI ((s + t : Nat) : Int), vI (s : Int)]), (1, vI W), (2, vI m), (3, vI n), (4, vP b3 0), (8, .bool false), (9, vS bl 2 2), (51, .bool false), (68, .bool false), (158, .bool false)]) ⟨rfl, rfl, rfl, rfl, rfl, rfl, rfl, rfl, rfl, rfl, trivial⟩ ?_
                    refine WC.no rfl ?_
                    refine WC.skip ?_
                    refine WQ.then ?_
                    refine hK93 _ _ _ ?_
                    refine WC.seq fun K120 hK120 => ?_
                    refine WC.region ?_
                    refine WL.call (f := 43) (args := #[]) 211 rfl (Nat.le_of_ble_eq_true rfl) rfl rfl (by kernel_rfl) ?_
                    refine (saneA_any _).mono ?_
                    rintro e w121 ⟨rfl, hb122⟩
                    refine ⟨_, rfl, ?_⟩
                    have hH123 : HP Tr w _ [.cel b3 #[vI ((s + t : Nat) : Int), vI (s : Int)] 23, .cel bl #[vI 0, vI (s : Int), vI 1, vI (t : Int)] 44] := HP.call hH26 hb122
                    refine WL.pure (v := .bool true) 8 rfl (Nat.le_of_ble_eq_true rfl) rfl rfl (by kernel_rfl) ?_
                    refine WL.nil ?_
                    refine WQ.then ?_
                    refine hK120 _ _ _ ?_
                    refine WC.ret ?_
                    refine WQ.ret1 8 rfl rfl ?_
                    exact ⟨rfl, HP.below hH123⟩
                ·
                  refine WL.pure (v := .bool false) 149 rfl (Nat.le_of_ble_eq_true rfl) rfl rfl (x_leq rfl rfl rfl (dF (hf1))) ?_
                  refine WL.pure (v := .bool false) 150 rfl (Nat.le_of_ble_eq_true rfl) rfl rfl (by kernel_rfl) ?_
                  refine WL.pure (v := .bool false) 151 rfl (Nat.le_of_ble_eq_true rfl) rfl rfl (by kernel_rfl) ?_
                  refine WL.pass 152 rfl (Nat.le_of_ble_eq_true rfl) rfl ?_
                  refine WL.pass 153 rfl (Nat.le_of_ble_eq_true rfl) rfl ?_
                  refine WL.pure (v := .bool false) 154 rfl (Nat.le_of_ble_eq_true rfl) rfl rfl (by kernel_rfl) ?_
                  refine WL.pure (v := .bool false) 155 rfl (Nat.le_of_ble_eq_true rfl) rfl rfl (by kernel_rfl) ?_
                  refine WL.pass 156 rfl (Nat.le_of_ble_eq_true rfl) rfl ?_
                  refine WL.pass 157 rfl (Nat.le_of_ble_eq_true rfl) rfl ?_
                  refine WL.pure (v := .bool false) 158 rfl (Nat.le_of_ble_eq_true rfl) rfl rfl (by kernel_rfl) ?_
                  refine WL.nil ?_
                  refine WQ.then ?_
                  refine hK94 _ _ _ ?_
                  refine WC.sub (l' := [(0, .agg #[vI ((s + t : Nat) : Int), vI (s : Int)]), (1, vI W), (2, vI m), (3, vI n), (4, vP b3 0), (8, .bool false), (9, vS bl 2 2), (51, .bool false), (68, .bool false), (158, .bool false)]) ⟨rfl, rfl, rfl, rfl, rfl, rfl, rfl, rfl, rfl, rfl, trivial⟩ ?_
                  refine WC.no rfl ?_
                  refine WC.skip ?_
                  refine WQ.then ?_
                  refine hK93 _ _ _ ?_
                  refine WC.seq fun K124 hK124 => ?_
                  refine WC.region ?_
                  refine WL.call (f := 43) (args := #[]) 211 rfl (Nat.le_of_ble_eq_true rfl) rfl rfl (by kernel_rfl) ?_
                  refine (saneA_any _).mono ?_
                  rintro e w125 ⟨rfl, hb126⟩
                  refine ⟨_, rfl, ?_⟩
                  have hH127 : HP Tr w _ [.cel b3 #[vI ((s + t : Nat) : Int), vI (s : Int)] 23, .cel bl #[vI 0, vI (s : Int), vI 1, vI (t : Int)] 44] := HP.call hH26 hb126
                  refine WL.pure (v := .bool true) 8 rfl (Nat.le_of_ble_eq_true rfl) rfl rfl (by kernel_rfl) ?_
                  refine WL.nil ?_
                  refine WQ.then ?_
                  refine hK124 _ _ _ ?_
                  refine WC.ret ?_
                  refine WQ.ret1 8 rfl rfl ?_
                  exact ⟨rfl, HP.below hH127⟩
              ·
                refine WL.pure (v := .bool false) 146 rfl (Nat.le_of_ble_eq_true rfl) rfl rfl (x_geq rfl rfl rfl (dF (hf0))) ?_
                refine WL.pure (v := .bool false) 147 rfl (Nat.le_of_ble_eq_true rfl) rfl rfl (by kernel_rfl) ?_
                refine WL.pass 148 rfl (Nat.le_of_ble_eq_true rfl) rfl ?_
                refine WL.pass 149 rfl (Nat.le_of_ble_eq_true rfl) rfl ?_
                refine WL.pure (v := .bool false) 150 rfl (Nat.le_of_ble_eq_true rfl) rfl rfl (by kernel_rfl) ?_
                refine WL.pure (v := .bool false) 151 rfl (Nat.le_of_ble_eq_true rfl) rfl rfl (by kernel_rfl) ?_
                refine WL.pass 152 rfl (Nat.le_of_ble_eq_true rfl) rfl ?_
                refine WL.pass 153 rfl (Nat.le_of_ble_eq_true rfl) rfl ?_
                refine WL.pure (v := .bool false) 154 rfl (Nat.le_of_ble_eq_true rfl) rfl rfl (by kernel_rfl) ?_
                refine WL.pure (v := .bool false) 155 rfl (Nat.le_of_ble_eq_true rfl) rfl rfl (by kernel_rfl) ?_
                refine WL.pass 156 rfl (Nat.le_of_ble_eq_true rfl) rfl ?_
                refine WL.pass 157 rfl (Nat.le_of_ble_eq_true rfl) rfl ?_
                refine WL.pure (v := .bool false) 158 rfl (Nat.le_of_ble_eq_true rfl) rfl rfl (by kernel_rfl) ?_
                refine WL.nil ?_
                refine WQ.then ?_
                refine hK94 _ _ _ ?_
                refine WC.sub (l' := [(0, .agg #[vI ((s + t : Nat) : Int), vI (s : Int)]), (1, vI W), (2, vI m), (3, vI n), (4, vP b3 0), (8, .bool false), (9, vS bl 2 2), (51, .bool false), (68, .bool false), (158, .bool false)]) ⟨rfl, rfl, rfl, rfl, rfl, rfl, rfl, rfl, rfl, rfl, trivial⟩ ?_
                refine WC.no rfl ?_
                refine WC.skip ?_
                refine WQ.then ?_
                refine hK93 _ _ _ ?_
                refine WC.seq fun K128 hK128 => ?_
                refine WC.region ?_
                refine WL.call (f := 43) (args := #[]) 211 rfl (Nat.le_of_ble_eq_true rfl) rfl rfl (by kernel_rfl) ?_
                refine (saneA_any _).mono ?_
                rintro e w129 ⟨rfl, hb130⟩
                refine ⟨_, rfl, ?_⟩
                have hH131 : HP Tr w _ [.cel b3 #[vI ((s + t : Nat) : Int), vI (s : Int)] 23, .cel bl #[vI 0, vI (s : Int), vI 1, vI (t : Int)] 44] := HP.call hH26 hb130
                refine WL.pure (v := .bool true) 8 rfl (Nat.le_of_ble_eq_true rfl) rfl rfl (by kernel_rfl) ?_
                refine WL.nil ?_
                refine WQ.then ?_
                refine hK128 _ _ _ ?_
                refine WC.ret ?_
                refine WQ.ret1 8 rfl rfl ?_
                exact ⟨rfl, HP.below hH131⟩
          ·
            refine WL.pure (v := .bool false) 64 rfl (Nat.le_of_ble_eq_true rfl) rfl rfl (x_geq rfl rfl rfl (dF (hw0))) ?_
            refine WL.pure (v := .bool false) 65 rfl (Nat.le_of_ble_eq_true rfl) rfl rfl (by kernel_rfl) ?_
            refine WL.pass 66 rfl (Nat.le_of_ble_eq_true rfl) rfl ?_
            refine WL.pass 67 rfl (Nat.le_of_ble_eq_true rfl) rfl ?_
            refine WL.pure (v := .bool false) 68 rfl (Nat.le_of_ble_eq_true rfl) rfl rfl (by kernel_rfl) ?_
            refine WL.nil ?_
            refine WQ.then ?_
            refine hK28 _ _ _ ?_
            refine WC.no rfl ?_
            refine WC.skip ?_
            refine WQ.then ?_
            refine hK27 _ _ _ ?_
            refine WC.seq fun K132 hK132 => ?_
            refine WC.seq fun K133 hK133 => ?_
            refine WC.region ?_
            refine WL.pure (v := vI m) 145 rfl (Nat.le_of_ble_eq_true rfl) rfl rfl (by kernel_rfl) ?_
            by_cases hf0 : (0 : Int) ≤ m
            ·
              refine WL.pure (v := .bool true) 146 rfl (Nat.le_of_ble_eq_true rfl) rfl rfl (x_geq rfl rfl rfl (dT (hf0))) ?_
              refine WL.pure (v := .bool true) 147 rfl (Nat.le_of_ble_eq_true rfl) rfl rfl (by kernel_rfl) ?_
              refine WL.pure (v := vI m) 148 rfl (Nat.le_of_ble_eq_true rfl) rfl rfl (by kernel_rfl) ?_
              by_cases hf1 : m ≤ 10000
              ·
                refine WL.pure (v := .bool true) 149 rfl (Nat.le_of_ble_eq_true rfl) rfl rfl (x_leq rfl rfl rfl (dT (hf1))) ?_
                refine WL.pure (v := .bool true) 150 rfl (Nat.le_of_ble_eq_true rfl) rfl rfl (by kernel_rfl) ?_
                refine WL.pure (v := .bool true) 151 rfl (Nat.le_of_ble_eq_true rfl) rfl rfl (by kernel_rfl) ?_
                refine WL.pure (v := vI n) 152 rfl (Nat.le_of_ble_eq_true rfl) rfl rfl (by kernel_rfl) ?_
                by_cases hn0 : (1 : Int) ≤ n
                ·
                  refine WL.pure (v := .bool true) 153 rfl (Nat.le_of_ble_eq_true rfl) rfl rfl (x_geq rfl rfl rfl (dT (hn0))) ?_
                  refine WL.pure (v := .bool true) 154 rfl (Nat.le_of_ble_eq_true rfl) rfl rfl (by kernel_rfl) ?_
                  refine WL.pure (v := .bool true) 155 rfl (Nat.le_of_ble_eq_true rfl) rfl rfl (by kernel_rfl) ?_
                  refine WL.pure (v := vI n) 156 rfl (Nat.le_of_ble_eq_true rfl) rfl rfl (by kernel_rfl) ?_
                  by_cases hn1 : n ≤ 100
                  ·
                    refine WL.pure (v := .bool true) 157 rfl (Nat.le_of_ble_eq_true rfl) rfl rfl (x_leq rfl rfl rfl (dT (hn1))) ?_
                    refine WL.pure (v := .bool true) 158 rfl (Nat.le_of_ble_eq_true rfl) rfl rfl (by kernel_rfl) ?_
                    refine WL.nil ?_
                    refine WQ.then ?_
                    refine hK133 _ _ _ ?_
                    refine WC.sub (l' := [(0, .agg #[vI ((s + t : Nat) : Int), vI (s : Int)]), (1, vI W), (2, vI m), (3, vI n), (4, vP b3 0), (8, .bool false), (9, vS bl 2 2), (51, .bool false), (68, .bool false), (158, .bool true)]) ⟨rfl, rfl, rfl, rfl, rfl, rfl, rfl, rfl, rfl, rfl, trivial⟩ ?_
                    refine WC.yes rfl ?_
                    refine WC.seq fun K134 hK134 => ?_
                    refine WC.region ?_
                    refine WL.pure (v := .agg #[vI ((s + t : Nat) : Int), vI (s : Int)]) 160 rfl (Nat.le_of_ble_eq_true rfl) rfl rfl (x_loadS (cs := [vI ((s + t : Nat) : Int), vI (s : Int)]) rfl rfl Try.underlying23 rfl sz23 (HP.range hH26 0 rfl rfl)) ?_
                    refine WL.pure (v := vI m) 161 rfl (Nat.le_of_ble_eq_true rfl) rfl rfl (by kernel_rfl) ?_
                    refine WL.pure (v := vI n) 162 rfl (Nat.le_of_ble_eq_true rfl) rfl rfl (by kernel_rfl) ?_
                    refine WL.call (f := 25) (args := #[.agg #[vI ((s + t : Nat) : Int), vI (s : Int)], vI m, vI n]) 163 rfl (Nat.le_of_ble_eq_true rfl) rfl rfl (by kernel_rfl) ?_
                    refine (when_ok ((s + t : Nat) : Int) (s : Int) m n _ hv (by omega) (by omega) (by omega) (by omega)).mono ?_
                    rintro e w135 ⟨rfl, hb136⟩
                    refine ⟨_, rfl, ?_⟩
                    have hH137 : HP Tr w _ [.cel b3 #[vI ((s + t : Nat) : Int), vI (s : Int)] 23, .cel bl #[vI 0, vI (s : Int), vI 1, vI (t : Int)] 44] := HP.call hH26 hb136
                    refine WL.pure (v := .tuple #[vI (wn ((s + t : Nat) : Int) (s : Int) m n), vI 0]) 159 rfl (Nat.le_of_ble_eq_true rfl) rfl rfl (by kernel_rfl) ?_
                    refine WL.pure (v := vI (wn ((s + t : Nat) : Int) (s : Int) m n)) 164 rfl (Nat.le_of_ble_eq_true rfl) rfl rfl (by kernel_rfl) ?_
                    refine WL.pure (v := vI 0) 165 rfl (Nat.le_of_ble_eq_true rfl) rfl rfl (by kernel_rfl) ?_
                    refine WL.pure (v := vI (wn ((s + t : Nat) : Int) (s : Int) m n)) 22 rfl (Nat.le_of_ble_eq_true rfl) rfl rfl (by kernel_rfl) ?_
                    refine WL.pure (v := vI 0) 23 rfl (Nat.le_of_ble_eq_true rfl) rfl rfl (by kernel_rfl) ?_
                    refine WL.nil ?_
                    refine WQ.then ?_
                    refine hK134 _ _ _ ?_
                    refine WC.sub (l' := [(0, .agg #[vI ((s + t : Nat) : Int), vI (s : Int)]), (1, vI W), (2, vI m), (3, vI n), (4, vP b3 0), (8, .bool false), (9, vS bl 2 2), (22, vI (wn ((s + t : Nat) : Int) (s : Int) m n)), (23, vI 0), (51, .bool false), (68, .bool false), (158, .bool true)]) ⟨rfl, rfl, rfl, rfl, rfl, rfl, rfl, rfl, rfl, rfl, rfl, rfl, trivial⟩ ?_
                    refine WC.seq fun K138 hK138 => ?_
                    refine WC.region ?_
                    refine WL.pure (v := vS bl 2 2) 167 rfl (Nat.le_of_ble_eq_true rfl) rfl rfl (by kernel_rfl) ?_
                    refine WL.pure (v := vI m) 168 rfl (Nat.le_of_ble_eq_true rfl) rfl rfl (by kernel_rfl) ?_
                    refine WL.pure (v := vI n) 169 rfl (Nat.le_of_ble_eq_true rfl) rfl rfl (by kernel_rfl) ?_
                    refine WL.pure (v := .agg #[vI 1, vI m, vI n]) 170 rfl (Nat.le_of_ble_eq_true rfl) rfl rfl (by kernel_rfl) ?_
                    refine WL.call (f := 46) (args := #[vS bl 2 2, .agg #[vI 1, vI m, vI n]]) 171 rfl (Nat.le_of_ble_eq_true rfl) rfl rfl (by kernel_rfl) ?_
                    refine (bEnd_any _ _ s t m n _ (LR_of hH137 1 rfl) hs ht (by omega) (by omega) (by omega) (by omega)).mono ?_
                    rintro e w139 ⟨rfl, hb140⟩
                    refine ⟨_, rfl, ?_⟩
                    have hH141 : HP Tr w _ [.cel b3 #[vI ((s + t : Nat) : Int), vI (s : Int)] 23, .cel bl #[vI 0, vI (s : Int), vI 1, vI (t : Int)] 44] := HP.call hH137 hb140
                    have e4 : wn ((s + t : Nat) : Int) (s : Int) m n = pd ((s + t : Nat) : Int) (s : Int) (t : Int) (ad ((s + t : Nat) : Int) (s : Int) (t : Int) m + n) := by
                      have q := ad_ah ((s + t : Nat) : Int) (s : Int) m (by omega) (by omega) (by omega)
                      rw [show ((s + t : Nat) : Int) - (s : Int) = (t : Int) by omega] at q
                      unfold wn pl; rw [if_neg (by omega), ← q, show ((s + t : Nat) : Int) - (s : Int) = (t : Int) by omega]; rfl
                    refine WL.pure (v := .tuple #[vI (pd ((s + t : Nat) : Int) (s : Int) (t : Int) (ad ((s + t : Nat) : Int) (s : Int) (t : Int) m + n)), vI 0]) 166 rfl (Nat.le_of_ble_eq_true rfl) rfl rfl (by kernel_rfl) ?_
                    refine WL.pure (v := vI (pd ((s + t : Nat) : Int) (s : Int) (t : Int) (ad ((s + t : Nat) : Int) (s : Int) (t : Int) m + n))) 172 rfl (Nat.le_of_ble_eq_true rfl) rfl rfl (by kernel_rfl) ?_
                    refine WL.pure (v := vI 0) 173 rfl (Nat.le_of_ble_eq_true rfl) rfl rfl (by kernel_rfl) ?_
                    refine WL.pure (v := vI (pd ((s + t : Nat) : Int) (s : Int) (t : Int) (ad ((s + t : Nat) : Int) (s : Int) (t : Int) m + n))) 24 rfl (Nat.le_of_ble_eq_true rfl) rfl rfl (by kernel_rfl) ?_
                    refine WL.pure (v := vI 0) 25 rfl (Nat.le_of_ble_eq_true rfl) rfl rfl (by kernel_rfl) ?_
                    refine WL.nil ?_
                    refine WQ.then ?_
                    refine hK138 _ _ _ ?_
                    refine WC.sub (l' := [(0, .agg #[vI ((s + t : Nat) : Int), vI (s : Int)]), (1, vI W), (2, vI m), (3, vI n), (4, vP b3 0), (8, .bool false), (9, vS bl 2 2), (22, vI (wn ((s + t : Nat) : Int) (s : Int) m n)), (23, vI 0), (24, vI (pd ((s + t : Nat) : Int) (s : Int) (t : Int) (ad ((s + t : Nat) : Int) (s : Int) (t : Int) m + n))), (25, vI 0), (51, .bool false), (68, .bool false), (158, .bool true)]) ⟨rfl, rfl, rfl, rfl, rfl, rfl, rfl, rfl, rfl, rfl, rfl, rfl, rfl, rfl, trivial⟩ ?_
                    refine WC.seq fun K142 hK142 => ?_
                    refine WC.region ?_
                    refine WL.pure (v := .agg #[vI ((s + t : Nat) : Int), vI (s : Int)]) 175 rfl (Nat.le_of_ble_eq_true rfl) rfl rfl (x_loadS (cs := [vI ((s + t : Nat) : Int), vI (s : Int)]) rfl rfl Try.underlying23 rfl sz23 (HP.range hH141 0 rfl rfl)) ?_
                    refine WL.pure (v := vI n) 176 rfl (Nat.le_of_ble_eq_true rfl) rfl rfl (by kernel_rfl) ?_
                    refine WL.call (f := 19) (args := #[.agg #[vI ((s + t : Nat) : Int), vI (s : Int)], vI n]) 177 rfl (Nat.le_of_ble_eq_true rfl) rfl rfl (by kernel_rfl) ?_
                    refine (longest_ok ((s + t : Nat) : Int) (s : Int) n _ hv (by omega) (by omega)).mono ?_
                    rintro e w143 ⟨rfl, hb144⟩
                    refine ⟨_, rfl, ?_⟩
                    have hH145 : HP Tr w _ [.cel b3 #[vI ((s + t : Nat) : Int), vI (s : Int)] 23, .cel bl #[vI 0, vI (s : Int), vI 1, vI (t : Int)] 44] := HP.call hH141 hb144
                    refine WL.pure (v := .tuple #[vI (lo ((s + t : Nat) : Int) (s : Int) n), vI 0]) 174 rfl (Nat.le_of_ble_eq_true rfl) rfl rfl (by kernel_rfl) ?_
                    refine WL.pure (v := vI (lo ((s + t : Nat) : Int) (s : Int) n)) 178 rfl (Nat.le_of_ble_eq_true rfl) rfl rfl (by kernel_rfl) ?_
                    refine WL.pure (v := vI 0) 179 rfl (Nat.le_of_ble_eq_true rfl) rfl rfl (by kernel_rfl) ?_
                    refine WL.pure (v := vI (lo ((s + t : Nat) : Int) (s : Int) n)) 26 rfl (Nat.le_of_ble_eq_true rfl) rfl rfl (by kernel_rfl) ?_
                    refine WL.pure (v := vI 0) 27 rfl (Nat.le_of_ble_eq_true rfl) rfl rfl (by kernel_rfl) ?_
                    refine WL.nil ?_
                    refine WQ.then ?_
                    refine hK142 _ _ _ ?_
                    refine WC.sub (l' := [(0, .agg #[vI ((s + t : Nat) : Int), vI (s : Int)]), (1, vI W), (2, vI m), (3, vI n), (4, vP b3 0), (8, .bool false), (9, vS bl 2 2), (22, vI (wn ((s + t : Nat) : Int) (s : Int) m n)), (23, vI 0), (24, vI (pd ((s + t : Nat) : Int) (s : Int) (t : Int) (ad ((s + t : Nat) : Int) (s : Int) (t : Int) m + n))), (25, vI 0), (26, vI (lo ((s + t : Nat) : Int) (s : Int) n)), (27, vI 0), (51, .bool false), (68, .bool false), (158, .bool true)]) ⟨rfl, rfl, rfl, rfl, rfl, rfl, rfl, rfl, rfl, rfl, rfl, rfl, rfl, rfl, rfl, rfl, trivial⟩ ?_
                    refine WC.seq fun K146 hK146 => ?_
                    refine WC.region ?_
                    refine WL.pure (v := vS bl 2 2) 181 rfl (Nat.le_of_ble_eq_true rfl) rfl rfl (by kernel_rfl) ?_
                    refine WL.pure (v := vI n) 182 rfl (Nat.le_of_ble_eq_true rfl) rfl rfl (by kernel_rfl) ?_
                    refine WL.call (f := 47) (args := #[vS bl 2 2, vI 1, vI n]) 183 rfl (Nat.le_of_ble_eq_true rfl) rfl rfl (by kernel_rfl) ?_
                    refine (worst_any _ _ s t n _ (LR_of hH145 1 rfl) hs ht (by omega) (by omega)).mono ?_
                    rintro e w147 ⟨j9, mm, hj9, rfl, hb148⟩
                    refine ⟨_, rfl, ?_⟩
                    have hH149 : HP Tr w _ [.cel b3 #[vI ((s + t : Nat) : Int), vI (s : Int)] 23, .cel bl #[vI 0, vI (s : Int), vI 1, vI (t : Int)] 44] := HP.call hH145 hb148
                    have e5 := longest_eq ((s + t : Nat) : Int) (s : Int) n j9 (by omega) (by omega) (by omega)
                    rw [show ((s + t : Nat) : Int) - (s : Int) = (t : Int) by omega] at e5
                    refine WL.pure (v := .tuple #[vI (mx (wt ((s + t : Nat) : Int) (s : Int) (t : Int) n) j9), vI mm, vI 0]) 180 rfl (Nat.le_of_ble_eq_true rfl) rfl rfl (by kernel_rfl) ?_
                    refine WL.pure (v := vI (mx (wt ((s + t : Nat) : Int) (s : Int) (t : Int) n) j9)) 184 rfl (Nat.le_of_ble_eq_true rfl) rfl rfl (by kernel_rfl) ?_
                    refine WL.pure (v := vI mm) 185 rfl (Nat.le_of_ble_eq_true rfl) rfl rfl (by kernel_rfl) ?_
                    refine WL.pure (v := vI 0) 186 rfl (Nat.le_of_ble_eq_true rfl) rfl rfl (by kernel_rfl) ?_
                    refine WL.pure (v := vI (mx (wt ((s + t : Nat) : Int) (s : Int) (t : Int) n) j9)) 28 rfl (Nat.le_of_ble_eq_true rfl) rfl rfl (by kernel_rfl) ?_
                    refine WL.pure (v := vI mm) 29 rfl (Nat.le_of_ble_eq_true rfl) rfl rfl (by kernel_rfl) ?_
                    refine WL.pure (v := vI 0) 30 rfl (Nat.le_of_ble_eq_true rfl) rfl rfl (by kernel_rfl) ?_
                    refine WL.nil ?_
                    refine WQ.then ?_
                    refine hK146 _ _ _ ?_
                    refine WC.sub (l' := [(0, .agg #[vI ((s + t : Nat) : Int), vI (s : Int)]), (1, vI W), (2, vI m), (3, vI n), (4, vP b3 0), (8, .bool false), (9, vS bl 2 2), (22, vI (wn ((s + t : Nat) : Int) (s : Int) m n)), (23, vI 0), (24, vI (pd ((s + t : Nat) : Int) (s : Int) (t : Int) (ad ((s + t : Nat) : Int) (s : Int) (t : Int) m + n))), (25, vI 0), (26, vI (lo ((s + t : Nat) : Int) (s : Int) n)), (27, vI 0), (28, vI (mx (wt ((s + t : Nat) : Int) (s : Int) (t : Int) n) j9)), (30, vI 0), (51, .bool false), (68, .bool false), (158, .bool true)]) ⟨rfl, rfl, rfl, rfl, rfl, rfl, rfl, rfl, rfl, rfl, rfl, rfl, rfl, rfl, rfl, rfl, rfl, rfl, trivial⟩ ?_
                    refine WC.seq fun K150 hK150 => ?_
                    refine WC.region ?_
                    refine WL.pure (v := vI (wn ((s + t : Nat) : Int) (s : Int) m n)) 187 rfl (Nat.le_of_ble_eq_true rfl) rfl rfl (by kernel_rfl) ?_
                    refine WL.pure (v := vI (pd ((s + t : Nat) : Int) (s : Int) (t : Int) (ad ((s + t : Nat) : Int) (s : Int) (t : Int) m + n))) 188 rfl (Nat.le_of_ble_eq_true rfl) rfl rfl (by kernel_rfl) ?_
                    refine WL.pure (v := .bool false) 189 rfl (Nat.le_of_ble_eq_true rfl) rfl rfl (x_neq rfl rfl rfl (dF (fun h => h e4))) ?_
                    refine WL.pure (v := .bool false) 190 rfl (Nat.le_of_ble_eq_true rfl) rfl rfl (by kernel_rfl) ?_
                    refine WL.pure (v := vI (lo ((s + t : Nat) : Int) (s : Int) n)) 191 rfl (Nat.le_of_ble_eq_true rfl) rfl rfl (by kernel_rfl) ?_
                    refine WL.pure (v := vI (mx (wt ((s + t : Nat) : Int) (s : Int) (t : Int) n) j9)) 192 rfl (Nat.le_of_ble_eq_true rfl) rfl rfl (by kernel_rfl) ?_
                    refine WL.pure (v := .bool false) 193 rfl (Nat.le_of_ble_eq_true rfl) rfl rfl (x_neq rfl rfl rfl (dF (fun h => h e5.symm))) ?_
                    refine WL.pure (v := .bool false) 194 rfl (Nat.le_of_ble_eq_true rfl) rfl rfl (by kernel_rfl) ?_
                    refine WL.pure (v := .bool false) 195 rfl (Nat.le_of_ble_eq_true rfl) rfl rfl (by kernel_rfl) ?_
                    refine WL.pure (v := vI 0) 196 rfl (Nat.le_of_ble_eq_true rfl) rfl rfl (by kernel_rfl) ?_
                    refine WL.pure (v := .bool false) 197 rfl (Nat.le_of_ble_eq_true rfl) rfl rfl (x_neq rfl rfl rfl (by decide)) ?_
                    refine WL.pure (v := .bool false) 198 rfl (Nat.le_of_ble_eq_true rfl) rfl rfl (by kernel_rfl) ?_
                    refine WL.pure (v := .bool false) 199 rfl (Nat.le_of_ble_eq_true rfl) rfl rfl (by kernel_rfl) ?_
                    refine WL.pure (v := vI 0) 200 rfl (Nat.le_of_ble_eq_true rfl) rfl rfl (by kernel_rfl) ?_
                    refine WL.pure (v := .bool false) 201 rfl (Nat.le_of_ble_eq_true rfl) rfl rfl (x_neq rfl rfl rfl (by decide)) ?_
                    refine WL.pure (v := .bool false) 202 rfl (Nat.le_of_ble_eq_true rfl) rfl rfl (by kernel_rfl) ?_
                    refine WL.pure (v := .bool false) 203 rfl (Nat.le_of_ble_eq_true rfl) rfl rfl (by kernel_rfl) ?_
                    refine WL.pure (v := vI 0) 204 rfl (Nat.le_of_ble_eq_true rfl) rfl rfl (by kernel_rfl) ?_
                    refine WL.pure (v := .bool false) 205 rfl (Nat.le_of_ble_eq_true rfl) rfl rfl (x_neq rfl rfl rfl (by decide)) ?_
                    refine WL.pure (v := .bool false) 206 rfl (Nat.le_of_ble_eq_true rfl) rfl rfl (by kernel_rfl) ?_
                    refine WL.pure (v := .bool false) 207 rfl (Nat.le_of_ble_eq_true rfl) rfl rfl (by kernel_rfl) ?_
                    refine WL.pure (v := vI 0) 208 rfl (Nat.le_of_ble_eq_true rfl) rfl rfl (by kernel_rfl) ?_
                    refine WL.pure (v := .bool false) 209 rfl (Nat.le_of_ble_eq_true rfl) rfl rfl (x_neq rfl rfl rfl (by decide)) ?_
                    refine WL.pure (v := .bool false) 210 rfl (Nat.le_of_ble_eq_true rfl) rfl rfl (by kernel_rfl) ?_
                    refine WL.nil ?_
                    refine WQ.then ?_
                    refine hK150 _ _ _ ?_
                    refine WC.sub (l' := [(0, .agg #[vI ((s + t : Nat) : Int), vI (s : Int)]), (1, vI W), (2, vI m), (3, vI n), (4, vP b3 0), (8, .bool false), (9, vS bl 2 2), (22, vI (wn ((s + t : Nat) : Int) (s : Int) m n)), (23, vI 0), (24, vI (pd ((s + t : Nat) : Int) (s : Int) (t : Int) (ad ((s + t : Nat) : Int) (s : Int) (t : Int) m + n))), (25, vI 0), (26, vI (lo ((s + t : Nat) : Int) (s : Int) n)), (27, vI 0), (28, vI (mx (wt ((s + t : Nat) : Int) (s : Int) (t : Int) n) j9)), (30, vI 0), (51, .bool false), (68, .bool false), (158, .bool true), (210, .bool false)]) ⟨rfl, rfl, rfl, rfl, rfl, rfl, rfl, rfl, rfl, rfl, rfl, rfl, rfl, rfl, rfl, rfl, rfl, rfl, rfl, trivial⟩ ?_
                    refine WC.no rfl ?_
                    refine WC.skip ?_
                    refine WQ.then ?_
                    refine hK132 _ _ _ ?_
                    refine WC.seq fun K151 hK151 => ?_
                    refine WC.region ?_
                    refine WL.call (f := 43) (args := #[]) 211 rfl (Nat.le_of_ble_eq_true rfl) rfl rfl (by kernel_rfl) ?_
                    refine (saneA_any _).mono ?_
                    rintro e w152 ⟨rfl, hb153⟩
                    refine ⟨_, rfl, ?_⟩
                    have hH154 : HP Tr w _ [.cel b3 #[vI ((s + t : Nat) : Int), vI (s : Int)] 23, .cel bl #[vI 0, vI (s : Int), vI 1, vI (t : Int)] 44] := HP.call hH149 hb153
                    refine WL.pure (v := .bool true) 8 rfl (Nat.le_of_ble_eq_true rfl) rfl rfl (by kernel_rfl) ?_
                    refine WL.nil ?_
                    refine WQ.then ?_
                    refine hK151 _ _ _ ?_
                    refine WC.ret ?_
                    refine WQ.ret1 8 rfl rfl ?_
                    exact ⟨rfl, HP.below hH154⟩
                  ·
                    refine WL.pure (v := .bool false) 157 rfl (Nat.le_of_ble_eq_true rfl) rfl rfl (x_leq rfl rfl rfl (dF (hn1))) ?_
                    refine WL.pure (v := .bool false) 158 rfl (Nat.le_of_ble_eq_true rfl) rfl rfl (by kernel_rfl) ?_
                    refine WL.nil ?_
                    refine WQ.then ?_
                    refine hK133 _ _ _ ?_
                    refine WC.sub (l' := [(0, .agg #[vI ((s + t : Nat) : Int), vI (s : Int)]), (1, vI W), (2, vI m), (3, vI n), (4, vP b3 0), (8, .bool false), (9, vS bl 2 2), (51, .bool false), (68, .bool false), (158, .bool false)]) ⟨rfl, rfl, rfl, rfl, rfl, rfl, rfl, rfl, rfl, rfl, trivial⟩ ?_
                    refine WC.no rfl ?_
                    refine WC.skip ?_
                    refine WQ.then ?_
                    refine hK132 _ _ _ ?_
                    refine WC.seq fun K155 hK155 => ?_
                    refine WC.region ?_
                    refine WL.call (f := 43) (args := #[]) 211 rfl (Nat.le_of_ble_eq_true rfl) rfl rfl (by kernel_rfl) ?_
                    refine (saneA_any _).mono ?_
                    rintro e w156 ⟨rfl, hb157⟩
                    refine ⟨_, rfl, ?_⟩
                    have hH158 : HP Tr w _ [.cel b3 #[vI ((s + t : Nat) : Int), vI (s : Int)] 23, .cel bl #[vI 0, vI (s : Int), vI 1, vI (t : Int)] 44] := HP.call hH26 hb157
                    refine WL.pure (v := .bool true) 8 rfl (Nat.le_of_ble_eq_true rfl) rfl rfl (by kernel_rfl) ?_
                    refine WL.nil ?_
                    refine WQ.then ?_
                    refine hK155 _ _ _ ?_
                    refine WC.ret ?_
                    refine WQ.ret1 8 rfl rfl ?_
                    exact ⟨rfl, HP.below hH158⟩
                ·
                  refine WL.pure (v := .bool false) 153 rfl (Nat.le_of_ble_eq_true rfl) rfl rfl (x_geq rfl rfl rfl (dF (hn0))) ?_
                  refine WL.pure (v := .bool false) 154 rfl (Nat.le_of_ble_eq_true rfl) rfl rfl (by kernel_rfl) ?_
                  refine WL.pure (v := .bool false) 155 rfl (Nat.le_of_ble_eq_true rfl) rfl rfl (by kernel_rfl) ?_
                  refine WL.pass 156 rfl (Nat.le_of_ble_eq_true rfl) rfl ?_
                  refine WL.pass 157 rfl (Nat.le_of_ble_eq_true rfl) rfl ?_
                  refine WL.pure (v := .bool false) 158 rfl (Nat.le_of_ble_eq_true rfl) rfl rfl (by kernel_rfl) ?_
                  refine WL.nil ?_
                  refine WQ.then ?_
                  refine hK133 _ _ _ ?_
                  refine WC.sub (l' := [(0, .agg #[vI ((s + t : Nat) : Int), vI (s : Int)]), (1, vI W), (2, vI m), (3, vI n), (4, vP b3 0), (8, .bool false), (9, vS bl 2 2), (51, .bool false), (68, .bool false), (158, .bool false)]) ⟨rfl, rfl, rfl, rfl, rfl, rfl, rfl, rfl, rfl, rfl, trivial⟩ ?_
                  refine WC.no rfl ?_
                  refine WC.skip ?_
                  refine WQ.then ?_
                  refine hK132 _ _ _ ?_
                  refine WC.seq fun K159 hK159 => ?_
                  refine WC.region ?_
                  refine WL.call (f := 43) (args := #[]) 211 rfl (Nat.le_of_ble_eq_true rfl) rfl rfl (by kernel_rfl) ?_
                  refine (saneA_any _).mono ?_
                  rintro e w160 ⟨rfl, hb161⟩
                  refine ⟨_, rfl, ?_⟩
                  have hH162 : HP Tr w _ [.cel b3 #[vI ((s + t : Nat) : Int), vI (s : Int)] 23, .cel bl #[vI 0, vI (s : Int), vI 1, vI (t : Int)] 44] := HP.call hH26 hb161
                  refine WL.pure (v := .bool true) 8 rfl (Nat.le_of_ble_eq_true rfl) rfl rfl (by kernel_rfl) ?_
                  refine WL.nil ?_
                  refine WQ.then ?_
                  refine hK159 _ _ _ ?_
                  refine WC.ret ?_
                  refine WQ.ret1 8 rfl rfl ?_
                  exact ⟨rfl, HP.below hH162⟩
              ·
                refine WL.pure (v := .bool false) 149 rfl (Nat.le_of_ble_eq_true rfl) rfl rfl (x_leq rfl rfl rfl (dF (hf1))) ?_
                refine WL.pure (v := .bool false) 150 rfl (Nat.le_of_ble_eq_true rfl) rfl rfl (by kernel_rfl) ?_
                refine WL.pure (v := .bool false) 151 rfl (Nat.le_of_ble_eq_true rfl) rfl rfl (by kernel_rfl) ?_
                refine WL.pass 152 rfl (Nat.le_of_ble_eq_true rfl) rfl ?_
                refine WL.pass 153 rfl (Nat.le_of_ble_eq_true rfl) rfl ?_
                refine WL.pure (v := .bool false) 154 rfl (Nat.le_of_ble_eq_true rfl) rfl rfl (by kernel_rfl) ?_
                refine WL.pure (v := .bool false) 155 rfl (Nat.le_of_ble_eq_true rfl) rfl rfl (by kernel_rfl) ?_
                refine WL.pass 156 rfl (Nat.le_of_ble_eq_true rfl) rfl ?_
                refine WL.pass 157 rfl (Nat.le_of_ble_eq_true rfl) rfl ?_
                refine WL.pure (v := .bool false) 158 rfl (Nat.le_of_ble_eq_true rfl) rfl rfl (by kernel_rfl) ?_
                refine WL.nil ?_
                refine WQ.then ?_
                refine hK133 _ _ _ ?_
                refine WC.sub (l' := [(0, .agg #[vI ((s + t : Nat) : Int), vI (s : Int)]), (1, vI W), (2, vI m), (3, vI n), (4, vP b3 0), (8, .bool false), (9, vS bl 2 2), (51, .bool false), (68, .bool false), (158, .bool false)]) ⟨rfl, rfl, rfl, rfl, rfl, rfl, rfl, rfl, rfl, rfl, trivial⟩ ?_
                refine WC.no rfl ?_
                refine WC.skip ?_
                refine WQ.then ?_
                refine hK132 _ _ _ ?_
                refine WC.seq fun K163 hK163 => ?_
                refine WC.region ?_
                refine WL.call (f := 43) (args := #[]) 211 rfl (Nat.le_of_ble_eq_true rfl) rfl rfl (by kernel_rfl) ?_
                refine (saneA_any _).mono ?_
                rintro e w164 ⟨rfl, hb165⟩
                refine ⟨_, rfl, ?_⟩
                have hH166 : HP Tr w _ [.cel b3 #[vI ((s + t : Nat) : Int), vI (s : Int)] 23, .cel bl #[vI 0, vI (s : Int), vI 1, vI (t : Int)] 44] := HP.call hH26 hb165
                refine WL.pure (v := .bool true) 8 rfl (Nat.le_of_ble_eq_true rfl) rfl rfl (by kernel_rfl) ?_
                refine WL.nil ?_
                refine WQ.then ?_
                refine hK163 _ _ _ ?_
                refine WC.ret ?_
                refine WQ.ret1 8 rfl rfl ?_
                exact ⟨rfl, HP.below hH166⟩
            ·
              refine WL.pure (v := .bool false) 146 rfl (Nat.le_of_ble_eq_true rfl) rfl rfl (x_geq rfl rfl rfl (dF (hf0))) ?_
              refine WL.pure (v := .bool false) 147 rfl (Nat.le_of_ble_eq_true rfl) rfl rfl (by kernel_rfl) ?_
              refine WL.pass 148 rfl (Nat.le_of_ble_eq_true rfl) rfl ?_
              refine WL.pass 149 rfl (Nat.le_of_ble_eq_true rfl) rfl ?_
              refine WL.pure (v := .bool false) 150 rfl (Nat.le_of_ble_eq_true rfl) rfl rfl (by kernel_rfl) ?_
              refine WL.pure (v := .bool false) 151 rfl (Nat.le_of_ble_eq_true rfl) rfl rfl (by kernel_rfl) ?_
              refine WL.pass 152 rfl (Nat.le_of_ble_eq_true rfl) rfl ?_
              refine WL.pass 153 rfl (Nat.le_of_ble_eq_true rfl) rfl ?_
              refine WL.pure (v := .bool false) 154 rfl (Nat.le_of_ble_eq_true rfl) rfl rfl (by kernel_rfl) ?_
              refine WL.pure (v := .bool false) 155 rfl (Nat.le_of_ble_eq_true rfl) rfl rfl (by kernel_rfl) ?_
              refine WL.pass 156 rfl (Nat.le_of_ble_eq_true rfl) rfl ?_
              refine WL.pass 157 rfl (Nat.le_of_ble_eq_true rfl) rfl ?_
              refine WL.pure (v := .bool false) 158 rfl (Nat.le_of_ble_eq_true rfl) rfl rfl (by kernel_rfl) ?_
              refine WL.nil ?_
              refine WQ.then ?_
              refine hK133 _ _ _ ?_
              refine WC.sub (l' := [(0, .agg #[vI ((s + t : Nat) : Int), vI (s : Int)]), (1, vI W), (2, vI m), (3, vI n), (4, vP b3 0), (8, .bool false), (9, vS bl 2 2), (51, .bool false), (68, .bool false), (158, .bool false)]) ⟨rfl, rfl, rfl, rfl, rfl, rfl, rfl, rfl, rfl, rfl, trivial⟩ ?_
              refine WC.no rfl ?_
              refine WC.skip ?_
              refine WQ.then ?_
              refine hK132 _ _ _ ?_
              refine WC.seq fun K167 hK167 => ?_
              refine WC.region ?_
              refine WL.call (f := 43) (args := #[]) 211 rfl (Nat.le_of_ble_eq_true rfl) rfl rfl (by kernel_rfl) ?_
              refine (saneA_any _).mono ?_
              rintro e w168 ⟨rfl, hb169⟩
              refine ⟨_, rfl, ?_⟩
              have hH170 : HP Tr w _ [.cel b3 #[vI ((s + t : Nat) : Int), vI (s : Int)] 23, .cel bl #[vI 0, vI (s : Int), vI 1, vI (t : Int)] 44] := HP.call hH26 hb169
              refine WL.pure (v := .bool true) 8 rfl (Nat.le_of_ble_eq_true rfl) rfl rfl (by kernel_rfl) ?_
              refine WL.nil ?_
              refine WQ.then ?_
              refine hK167 _ _ _ ?_
              refine WC.ret ?_
              refine WQ.ret1 8 rfl rfl ?_
              exact ⟨rfl, HP.below hH170⟩
  ·
    have q := valid_any a0 a1
    rw [hv] at q
    refine WL.call (f := 23) (args := #[.agg #[vI a0, vI a1]]) 32 rfl (Nat.le_of_ble_eq_true rfl) rfl rfl (by kernel_rfl) ?_
    refine (q _).mono ?_
    rintro e w171 ⟨rfl, hb172⟩
    refine ⟨_, rfl, ?_⟩
    have hH173 : HP Tr w _ [.cel b3 #[vI a0, vI a1] 23] := HP.call hH5 hb172
    refine WL.pure (v := .bool true) 33 rfl (Nat.le_of_ble_eq_true rfl) rfl rfl (by kernel_rfl) ?_
    refine WL.pure (v := .bool true) 34 rfl (Nat.le_of_ble_eq_true rfl) rfl rfl (by kernel_rfl) ?_
    refine WL.pass 35 rfl (Nat.le_of_ble_eq_true rfl) rfl ?_
    refine WL.pass 36 rfl (Nat.le_of_ble_eq_true rfl) rfl ?_
    refine WL.pass 37 rfl (Nat.le_of_ble_eq_true rfl) rfl ?_
    refine WL.pure (v := .bool true) 38 rfl (Nat.le_of_ble_eq_true rfl) rfl rfl (by kernel_rfl) ?_
    refine WL.pure (v := .bool true) 39 rfl (Nat.le_of_ble_eq_true rfl) rfl rfl (by kernel_rfl) ?_
    refine WL.pass 40 rfl (Nat.le_of_ble_eq_true rfl) rfl ?_
    refine WL.pass 41 rfl (Nat.le_of_ble_eq_true rfl) rfl ?_
    refine WL.pass 42 rfl (Nat.le_of_ble_eq_true rfl) rfl ?_
    refine WL.pure (v := .bool true) 43 rfl (Nat.le_of_ble_eq_true rfl) rfl rfl (by kernel_rfl) ?_
    refine WL.pure (v := .bool true) 44 rfl (Nat.le_of_ble_eq_true rfl) rfl rfl (by kernel_rfl) ?_
    refine WL.pass 45 rfl (Nat.le_of_ble_eq_true rfl) rfl ?_
    refine WL.pass 46 rfl (Nat.le_of_ble_eq_true rfl) rfl ?_
    refine WL.pass 47 rfl (Nat.le_of_ble_eq_true rfl) rfl ?_
    refine WL.pass 48 rfl (Nat.le_of_ble_eq_true rfl) rfl ?_
    refine WL.pass 49 rfl (Nat.le_of_ble_eq_true rfl) rfl ?_
    refine WL.pass 50 rfl (Nat.le_of_ble_eq_true rfl) rfl ?_
    refine WL.pure (v := .bool true) 51 rfl (Nat.le_of_ble_eq_true rfl) rfl rfl (by kernel_rfl) ?_
    refine WL.nil ?_
    refine WQ.then ?_
    refine hK7 _ _ _ ?_
    refine WC.sub (l' := [(0, .agg #[vI a0, vI a1]), (1, vI W), (2, vI m), (3, vI n), (4, vP b3 0), (8, .bool false), (51, .bool true)]) ⟨rfl, rfl, rfl, rfl, rfl, rfl, rfl, trivial⟩ ?_
    refine WC.yes rfl ?_
    refine WC.seq fun K174 hK174 => ?_
    refine WC.region ?_
    refine WL.call (f := 43) (args := #[]) 52 rfl (Nat.le_of_ble_eq_true rfl) rfl rfl (by kernel_rfl) ?_
    refine (saneA_any _).mono ?_
    rintro e w175 ⟨rfl, hb176⟩
    refine ⟨_, rfl, ?_⟩
    have hH177 : HP Tr w _ [.cel b3 #[vI a0, vI a1] 23] := HP.call hH173 hb176
    refine WL.pure (v := .bool true) 8 rfl (Nat.le_of_ble_eq_true rfl) rfl rfl (by kernel_rfl) ?_
    refine WL.nil ?_
    refine WQ.then ?_
    refine hK174 _ _ _ ?_
    refine WC.ret ?_
    refine WQ.thenRet ?_
    refine WQ.ret1 8 rfl rfl ?_
    exact ⟨rfl, HP.below hH177⟩

theorem own : ownKnob Try.prog.godebug = none := by kernel_rfl
theorem laidOut : laidOutB Try.prog = true := by kernel_rfl
theorem cells23 : Try.prog.cellsOf 23 = 2 := by kernel_rfl

set_option maxRecDepth 100000 in
theorem lifted (os : Os) (started : os.Started) (H : Type) (enc : TypeId × Value → H) :
    ReturnsInHanded {} Try.checked os 14 .any (Rows.topSlotsSpec.pre6 enc Try.prog Try.f14 Rows.topSlotsRow.domain false) (Rows.topSlotsSpec.post enc Try.prog Try.f14 false true false false) := by
  refine returnsInHanded_of_change (C := Try.checked) own started (by kernel_rfl) Try.func14
    (ChangeSpec.witness6 (enc := enc) (C := Try.checked) false ⟨#[], #[.agg #[.int .i64 0, .int .i64 0], .int .i64 0, .int .i64 0, .int .i64 0], []⟩ 8 (by kernel_rfl) (by kernel_rfl) (by kernel_rfl) (by kernel_rfl)) ?_
  intro W base args ds gs before hval0 hW hcnd _
  have hval : ∀ (j : Nat) t v, Try.f14.params[j]? = some t → args[j]? = some v → Value.okWide Try.prog W .any base t v := hval0
  have hW' := hW
  obtain ⟨p, q, hA0, hV, rfl, hfz, hnd⟩ := hW
  have hA : DataW.TrodAll enc Try.prog W 0 (fun _ => true) true Try.f14.params.toList args.toList ds p := hA0
  rw [Try.params14] at hA hval
  obtain ⟨v0, vs0, d0, ds0, p0, q0, hargs, rfl, rfl, h0, r0⟩ := trodAll_cons hA
  obtain ⟨v1, vs1, d1, ds1, p1, q1, rfl, rfl, rfl, h1, r1⟩ := trodAll_cons r0
  obtain ⟨v2, vs2, d2, ds2, p2, q2, rfl, rfl, rfl, h2, r2⟩ := trodAll_cons r1
  obtain ⟨v3, vs3, d3, ds3, p3, q3, rfl, rfl, rfl, h3, r3⟩ := trodAll_cons r2
  obtain ⟨rfl, rfl, rfl⟩ := trodAll_nil r3
  obtain rfl : args = #[v0, v1, v2, v3] := by cases args; simp_all
  obtain ⟨rfl, rfl⟩ := trodVars_none hV
  have k0 := h0
  have lt0 : ∀ x ∈ p0, x.block < W.heap.size := by obtain ⟨m, hm⟩ := k0; exact DataW.trod_lt m _ _ _ hm
  obtain ⟨c0_0, c0_1, y0_0, y0_1, m0, rfl, hd0, hp0, hy0_0, hy0_1⟩ := open_agg2 Try.underlying23 (by kernel_rfl) cells23 (hval 0 23 v0 rfl rfl) h0
  obtain ⟨a0_0, e0_0, -, w0_0⟩ := DataW.trod_int Try.underlying3 hy0_0
  simp at e0_0
  subst e0_0
  obtain ⟨a0_1, e0_1, -, w0_1⟩ := DataW.trod_int Try.underlying3 hy0_1
  simp at e0_1
  subst e0_1
  clear hd0 hp0
  obtain ⟨a1, rfl, rfl, rfl, w1⟩ := open_int Try.underlying3 (hval 1 3 v1 rfl rfl) h1
  obtain ⟨a2, rfl, rfl, rfl, w2⟩ := open_int Try.underlying3 (hval 2 3 v2 rfl rfl) h2
  obtain ⟨a3, rfl, rfl, rfl, w3⟩ := open_int Try.underlying3 (hval 3 3 v3 rfl rfl) h3
  clear hA0 hval0
  refine (walk a0_0 a0_1 a1 a2 a3 W w0_0 w0_1 w1 w2 w3).mono fun e W' ⟨he, bel⟩ => ?_
  subst he
  exact ⟨_, rfl, _, _, _, [], _, [], hW', trodAll_mk1 (shut_bool Try.underlying4 _), (trodAll_cons_mk (Below.trod laidOut (by kernel_rfl) (of_decide_eq_true (by kernel_rfl)) k0 bel lt0) (trodAll_cons_mk (shut_int Try.underlying3 w1) (trodAll_cons_mk (shut_int Try.underlying3 w2) (trodAll_cons_mk (shut_int Try.underlying3 w3) trodAll_mk0)))), rfl, bel.frame _, fun h => by cases h⟩

theorem over : Rows.topSlotsRow.holds Try.pinned (OpenSpec.ofChange Rows.topSlotsSpec) :=
  OpenClaim.holds_of_wide 14 Try.f14 rfl rfl rfl rfl rfl rfl rfl ⟨rfl, rfl, rfl, rfl, rfl⟩ rfl rfl rfl rfl rfl (by kernel_rfl) Try.func14 (by kernel_rfl)
    (of_decide_eq_true (by kernel_rfl)) (by unfold Func.isWrapper; first | (rw [if_pos (by decide +kernel)]; kernel_rfl) | (rw [if_neg (by decide +kernel)]; exact ⟨rfl, rfl⟩))
    (fun os started H enc _ => lifted os started H enc)

/-- the statement -/
theorem proved : Rows.TopSlotsSaid := over
end Go.Proofs.Ythiogahpoebamaa.topSlots
