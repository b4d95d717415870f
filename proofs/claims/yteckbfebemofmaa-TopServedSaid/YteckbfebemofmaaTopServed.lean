/-
  The statement TopServed: for all slots, masters, ticks, gaps and other requests the law returns true.
  Conditions: none beyond those of the given row.
-/
import Derived.Test.YteckbfebemofmaaRows
import Derived.Test.YteckbfebemofmaaBM
import Derived.ProofKit
import Derived.OpenShut
import Derived.ShutString
import Derived.ChangeOld
import Derived.Lib.SmallJoins
set_option linter.unusedVariables false
set_option linter.unusedSimpArgs false
namespace Go.Proofs.Yteckbfebemofmaa.topServed
open Go.ChangeShapes Go.WideShapes Go.ChangeAt Go.RowKit Go.Joins
open Go.ChangeMaps (open_string shut_string)
open Bs Fw

theorem range1 {w : World} {b off : Nat} {v : Value} (h : w.cell? ⟨b, off, none⟩ = some v) : w.rangeAt b off [v] := fun j u hu => by
  match j, hu with
  | 0, hu => simp at hu; subst hu; exact h
  | j + 1, hu => simp at hu
set_option maxRecDepth 20000 in
set_option maxHeartbeats 4000000 in
theorem walk (p : Option Addr) (N cap : Nat) (o sp : Nat → Int) (m tk : Int) (pg : Option Addr) (cg : Nat) (gs : List Int) (po : Option Addr) (co : Nat) (ot : List Rq) (w : World) (hS : InS w p N o sp) (w1 : (Lit.int .i64 m).wf = true) (w2 : (Lit.int .i64 tk).wf = true) (hc3 : gs.length ≤ cg) (hG : InI w pg gs) (hwi : ∀ x ∈ gs, Wi x) (hO : InQ w po ot) :
    Calls Try.prog 3 #[.slice p N cap, vI m, vI tk, .slice pg gs.length cg, .slice po ot.length co] w fun e w' => e = .returned (.bool true) ∧ Below w.heap.size w w' := by
  refine calls_of Try.func3 rfl (m := 170) rfl [(0, .slice p N cap), (1, vI m), (2, vI tk), (3, .slice pg gs.length cg), (4, .slice po ot.length co)] (Fr_enter [.slice p N cap, vI m, vI tk, .slice pg gs.length cg, .slice po ot.length co] 170 (Nat.le_of_ble_eq_true rfl)) ?_
  have hH1 : HP Tr w w [] := HP.refl w
  refine WC.seq fun K2 hK2 => ?_
  refine WC.region ?_
  refine WL.pure (v := .bool false) 10 rfl (Nat.le_of_ble_eq_true rfl) rfl rfl (by kernel_rfl) ?_
  refine WL.nil ?_
  refine WQ.then ?_
  refine hK2 _ _ _ ?_
  refine WC.seq fun K3 hK3 => ?_
  refine WC.seq fun K4 hK4 => ?_
  refine WC.region ?_
  refine WL.pure (v := .slice p N cap) 27 rfl (Nat.le_of_ble_eq_true rfl) rfl rfl (by kernel_rfl) ?_
  refine WL.pure (v := vI (N : Int)) 28 rfl (Nat.le_of_ble_eq_true rfl) rfl rfl (by kernel_rfl) ?_
  by_cases h60 : (60 : Int) < (N : Int)
  ·
    refine WL.pure (v := .bool true) 29 rfl (Nat.le_of_ble_eq_true rfl) rfl rfl (x_gtr rfl rfl rfl (dT (h60))) ?_
    refine WL.pure (v := .bool true) 30 rfl (Nat.le_of_ble_eq_true rfl) rfl rfl (by kernel_rfl) ?_
    refine WL.pass 31 rfl (Nat.le_of_ble_eq_true rfl) rfl ?_
    refine WL.pass 32 rfl (Nat.le_of_ble_eq_true rfl) rfl ?_
    refine WL.pass 33 rfl (Nat.le_of_ble_eq_true rfl) rfl ?_
    refine WL.pure (v := .bool true) 34 rfl (Nat.le_of_ble_eq_true rfl) rfl rfl (by kernel_rfl) ?_
    refine WL.pure (v := .bool true) 35 rfl (Nat.le_of_ble_eq_true rfl) rfl rfl (by kernel_rfl) ?_
    refine WL.pass 36 rfl (Nat.le_of_ble_eq_true rfl) rfl ?_
    refine WL.pass 37 rfl (Nat.le_of_ble_eq_true rfl) rfl ?_
    refine WL.pass 38 rfl (Nat.le_of_ble_eq_true rfl) rfl ?_
    refine WL.pure (v := .bool true) 39 rfl (Nat.le_of_ble_eq_true rfl) rfl rfl (by kernel_rfl) ?_
    refine WL.nil ?_
    refine WQ.then ?_
    refine hK4 _ _ _ ?_
    refine WC.sub (l' := [(0, .slice p N cap), (1, vI m), (2, vI tk), (3, .slice pg gs.length cg), (4, .slice po ot.length co), (10, .bool false), (39, .bool true)]) ⟨rfl, rfl, rfl, rfl, rfl, rfl, rfl, trivial⟩ ?_
    refine WC.yes rfl ?_
    refine WC.seq fun K5 hK5 => ?_
    refine WC.region ?_
    refine WL.pure (v := .bool true) 10 rfl (Nat.le_of_ble_eq_true rfl) rfl rfl (by kernel_rfl) ?_
    refine WL.nil ?_
    refine WQ.then ?_
    refine hK5 _ _ _ ?_
    refine WC.ret ?_
    refine WQ.thenRet ?_
    refine WQ.ret1 10 rfl rfl ?_
    exact ⟨rfl, HP.below hH1⟩
  ·
    refine WL.pure (v := .bool false) 29 rfl (Nat.le_of_ble_eq_true rfl) rfl rfl (x_gtr rfl rfl rfl (dF (h60))) ?_
    refine WL.pure (v := .bool false) 30 rfl (Nat.le_of_ble_eq_true rfl) rfl rfl (by kernel_rfl) ?_
    refine WL.pure (v := .slice pg gs.length cg) 31 rfl (Nat.le_of_ble_eq_true rfl) rfl rfl (by kernel_rfl) ?_
    refine WL.pure (v := vI (gs.length : Int)) 32 rfl (Nat.le_of_ble_eq_true rfl) rfl rfl (by kernel_rfl) ?_
    by_cases h20 : (20 : Int) < (gs.length : Int)
    ·
      refine WL.pure (v := .bool true) 33 rfl (Nat.le_of_ble_eq_true rfl) rfl rfl (x_gtr rfl rfl rfl (dT (h20))) ?_
      refine WL.pure (v := .bool true) 34 rfl (Nat.le_of_ble_eq_true rfl) rfl rfl (by kernel_rfl) ?_
      refine WL.pure (v := .bool true) 35 rfl (Nat.le_of_ble_eq_true rfl) rfl rfl (by kernel_rfl) ?_
      refine WL.pass 36 rfl (Nat.le_of_ble_eq_true rfl) rfl ?_
      refine WL.pass 37 rfl (Nat.le_of_ble_eq_true rfl) rfl ?_
      refine WL.pass 38 rfl (Nat.le_of_ble_eq_true rfl) rfl ?_
      refine WL.pure (v := .bool true) 39 rfl (Nat.le_of_ble_eq_true rfl) rfl rfl (by kernel_rfl) ?_
      refine WL.nil ?_
      refine WQ.then ?_
      refine hK4 _ _ _ ?_
      refine WC.sub (l' := [(0, .slice p N cap), (1, vI m), (2, vI tk), (3, .slice pg gs.length cg), (4, .slice po ot.length co), (10, .bool false), (39, .bool true)]) ⟨rfl, rfl, rfl, rfl, rfl, rfl, rfl, trivial⟩ ?_
      refine WC.yes rfl ?_
      refine WC.seq fun K6 hK6 => ?_
      refine WC.region ?_
      refine WL.pure (v := .bool true) 10 rfl (Nat.le_of_ble_eq_true rfl) rfl rfl (by kernel_rfl) ?_
      refine WL.nil ?_
      refine WQ.then ?_
      refine hK6 _ _ _ ?_
      refine WC.ret ?_
      refine WQ.thenRet ?_
      refine WQ.ret1 10 rfl rfl ?_
      exact ⟨rfl, HP.below hH1⟩
    ·
      refine WL.pure (v := .bool false) 33 rfl (Nat.le_of_ble_eq_true rfl) rfl rfl (x_gtr rfl rfl rfl (dF (h20))) ?_
      refine WL.pure (v := .bool false) 34 rfl (Nat.le_of_ble_eq_true rfl) rfl rfl (by kernel_rfl) ?_
      refine WL.pure (v := .bool false) 35 rfl (Nat.le_of_ble_eq_true rfl) rfl rfl (by kernel_rfl) ?_
      refine WL.pure (v := .slice po ot.length co) 36 rfl (Nat.le_of_ble_eq_true rfl) rfl rfl (by kernel_rfl) ?_
      refine WL.pure (v := vI (ot.length : Int)) 37 rfl (Nat.le_of_ble_eq_true rfl) rfl rfl (by kernel_rfl) ?_
      by_cases h21 : (20 : Int) < (ot.length : Int)
      ·
        refine WL.pure (v := .bool true) 38 rfl (Nat.le_of_ble_eq_true rfl) rfl rfl (x_gtr rfl rfl rfl (dT (h21))) ?_
        refine WL.pure (v := .bool true) 39 rfl (Nat.le_of_ble_eq_true rfl) rfl rfl (by kernel_rfl) ?_
        refine WL.nil ?_
        refine WQ.then ?_
        refine hK4 _ _ _ ?_
        refine WC.sub (l' := [(0, .slice p N cap), (1, vI m), (2, vI tk), (3, .slice pg gs.length cg), (4, .slice po ot.length co), (10, .bool false), (39, .bool true)]) ⟨rfl, rfl, rfl, rfl, rfl, rfl, rfl, trivial⟩ ?_
        refine WC.yes rfl ?_
        refine WC.seq fun K7 hK7 => ?_
        refine WC.region ?_
        refine WL.pure (v := .bool true) 10 rfl (Nat.le_of_ble_eq_true rfl) rfl rfl (by kernel_rfl) ?_
        refine WL.nil ?_
        refine WQ.then ?_
        refine hK7 _ _ _ ?_
        refine WC.ret ?_
        refine WQ.thenRet ?_
        refine WQ.ret1 10 rfl rfl ?_
        exact ⟨rfl, HP.below hH1⟩
      ·
        refine WL.pure (v := .bool false) 38 rfl (Nat.le_of_ble_eq_true rfl) rfl rfl (x_gtr rfl rfl rfl (dF (h21))) ?_
        refine WL.pure (v := .bool false) 39 rfl (Nat.le_of_ble_eq_true rfl) rfl rfl (by kernel_rfl) ?_
        refine WL.nil ?_
        refine WQ.then ?_
        refine hK4 _ _ _ ?_
        refine WC.sub (l' := [(0, .slice p N cap), (1, vI m), (2, vI tk), (3, .slice pg gs.length cg), (4, .slice po ot.length co), (10, .bool false), (39, .bool false)]) ⟨rfl, rfl, rfl, rfl, rfl, rfl, rfl, trivial⟩ ?_
        refine WC.no rfl ?_
        refine WC.skip ?_
        refine WQ.then ?_
        refine hK3 _ _ _ ?_
        refine WC.seq fun K8 hK8 => ?_
        refine WC.region ?_
        refine WL.pure (v := .slice p N cap) 41 rfl (Nat.le_of_ble_eq_true rfl) rfl rfl (by kernel_rfl) ?_
        refine WL.pure (v := vI m) 42 rfl (Nat.le_of_ble_eq_true rfl) rfl rfl (by kernel_rfl) ?_
        refine WL.pure (v := vI tk) 43 rfl (Nat.le_of_ble_eq_true rfl) rfl rfl (by kernel_rfl) ?_
        refine WL.call (f := 4) (args := #[.slice p N cap, vI m, vI tk]) 44 rfl (Nat.le_of_ble_eq_true rfl) rfl rfl (by kernel_rfl) ?_
        refine (worst_any p N cap o sp m tk _ (hS.below (HP.below hH1)) (by omega)).mono ?_
        rintro e w9 ⟨d, mm, er, rfl, hfr, hb10⟩
        refine ⟨_, rfl, ?_⟩
        have hH11 : HP Tr w _ [] := HP.call hH1 hb10
        refine WL.pure (v := .tuple #[vI d, vI mm, vI er]) 40 rfl (Nat.le_of_ble_eq_true rfl) rfl rfl (by kernel_rfl) ?_
        refine WL.pure (v := vI d) 45 rfl (Nat.le_of_ble_eq_true rfl) rfl rfl (by kernel_rfl) ?_
        refine WL.pure (v := vI mm) 46 rfl (Nat.le_of_ble_eq_true rfl) rfl rfl (by kernel_rfl) ?_
        refine WL.pure (v := vI er) 47 rfl (Nat.le_of_ble_eq_true rfl) rfl rfl (by kernel_rfl) ?_
        refine WL.pure (v := vI d) 11 rfl (Nat.le_of_ble_eq_true rfl) rfl rfl (by kernel_rfl) ?_
        refine WL.pure (v := vI mm) 12 rfl (Nat.le_of_ble_eq_true rfl) rfl rfl (by kernel_rfl) ?_
        refine WL.pure (v := vI er) 13 rfl (Nat.le_of_ble_eq_true rfl) rfl rfl (by kernel_rfl) ?_
        refine WL.nil ?_
        refine WQ.then ?_
        refine hK8 _ _ _ ?_
        refine WC.sub (l' := [(0, .slice p N cap), (1, vI m), (2, vI tk), (3, .slice pg gs.length cg), (4, .slice po ot.length co), (10, .bool false), (11, vI d), (13, vI er), (39, .bool false)]) ⟨rfl, rfl, rfl, rfl, rfl, rfl, rfl, rfl, rfl, trivial⟩ ?_
        refine WC.seq fun K12 hK12 => ?_
        refine WC.seq fun K13 hK13 => ?_
        refine WC.region ?_
        refine WL.pure (v := vI er) 48 rfl (Nat.le_of_ble_eq_true rfl) rfl rfl (by kernel_rfl) ?_
        by_cases her : er ≠ 0
        ·
          refine WL.pure (v := .bool true) 49 rfl (Nat.le_of_ble_eq_true rfl) rfl rfl (x_neq rfl rfl rfl (dT (her))) ?_
          refine WL.pure (v := .bool true) 50 rfl (Nat.le_of_ble_eq_true rfl) rfl rfl (by kernel_rfl) ?_
          refine WL.pass 51 rfl (Nat.le_of_ble_eq_true rfl) rfl ?_
          refine WL.pass 52 rfl (Nat.le_of_ble_eq_true rfl) rfl ?_
          refine WL.pure (v := .bool true) 53 rfl (Nat.le_of_ble_eq_true rfl) rfl rfl (by kernel_rfl) ?_
          refine WL.nil ?_
          refine WQ.then ?_
          refine hK13 _ _ _ ?_
          refine WC.yes rfl ?_
          refine WC.seq fun K14 hK14 => ?_
          refine WC.region ?_
          refine WL.pure (v := vI er) 54 rfl (Nat.le_of_ble_eq_true rfl) rfl rfl (by kernel_rfl) ?_
          refine WL.pure (v := .bool false) 55 rfl (Nat.le_of_ble_eq_true rfl) rfl rfl (x_eql rfl rfl rfl (dF (her))) ?_
          refine WL.pure (v := .bool false) 56 rfl (Nat.le_of_ble_eq_true rfl) rfl rfl (by kernel_rfl) ?_
          refine WL.pure (v := vI d) 57 rfl (Nat.le_of_ble_eq_true rfl) rfl rfl (by kernel_rfl) ?_
          refine WL.pure (v := .bool true) 58 rfl (Nat.le_of_ble_eq_true rfl) rfl rfl (x_eql rfl rfl rfl (dT (by rcases hfr with ⟨-, h⟩ | ⟨h, -⟩ <;> omega))) ?_
          refine WL.pure (v := .bool true) 59 rfl (Nat.le_of_ble_eq_true rfl) rfl rfl (by kernel_rfl) ?_
          refine WL.pure (v := .bool true) 10 rfl (Nat.le_of_ble_eq_true rfl) rfl rfl (by kernel_rfl) ?_
          refine WL.nil ?_
          refine WQ.then ?_
          refine hK14 _ _ _ ?_
          refine WC.sub (l' := [(0, .slice p N cap), (1, vI m), (2, vI tk), (3, .slice pg gs.length cg), (4, .slice po ot.length co), (10, .bool true), (11, vI d), (13, vI er), (39, .bool false), (53, .bool true)]) ⟨rfl, rfl, rfl, rfl, rfl, rfl, rfl, rfl, rfl, rfl, trivial⟩ ?_
          refine WC.ret ?_
          refine WQ.thenRet ?_
          refine WQ.ret1 10 rfl rfl ?_
          exact ⟨rfl, HP.below hH11⟩
        ·
          refine WL.pure (v := .bool false) 49 rfl (Nat.le_of_ble_eq_true rfl) rfl rfl (x_neq rfl rfl rfl (dF (her))) ?_
          refine WL.pure (v := .bool false) 50 rfl (Nat.le_of_ble_eq_true rfl) rfl rfl (by kernel_rfl) ?_
          refine WL.pure (v := vI d) 51 rfl (Nat.le_of_ble_eq_true rfl) rfl rfl (by kernel_rfl) ?_
          by_cases hd2 : (2000 : Int) < d
          ·
            refine WL.pure (v := .bool true) 52 rfl (Nat.le_of_ble_eq_true rfl) rfl rfl (x_gtr rfl rfl rfl (dT (hd2))) ?_
            refine WL.pure (v := .bool true) 53 rfl (Nat.le_of_ble_eq_true rfl) rfl rfl (by kernel_rfl) ?_
            refine WL.nil ?_
            refine WQ.then ?_
            refine hK13 _ _ _ ?_
            refine WC.yes rfl ?_
            refine WC.seq fun K15 hK15 => ?_
            refine WC.region ?_
            refine WL.pure (v := vI er) 54 rfl (Nat.le_of_ble_eq_true rfl) rfl rfl (by kernel_rfl) ?_
            refine WL.pure (v := .bool true) 55 rfl (Nat.le_of_ble_eq_true rfl) rfl rfl (x_eql rfl rfl rfl (dT (by omega))) ?_
            refine WL.pure (v := .bool true) 56 rfl (Nat.le_of_ble_eq_true rfl) rfl rfl (by kernel_rfl) ?_
            refine WL.pass 57 rfl (Nat.le_of_ble_eq_true rfl) rfl ?_
            refine WL.pass 58 rfl (Nat.le_of_ble_eq_true rfl) rfl ?_
            refine WL.pure (v := .bool true) 59 rfl (Nat.le_of_ble_eq_true rfl) rfl rfl (by kernel_rfl) ?_
            refine WL.pure (v := .bool true) 10 rfl (Nat.le_of_ble_eq_true rfl) rfl rfl (by kernel_rfl) ?_
            refine WL.nil ?_
            refine WQ.then ?_
            refine hK15 _ _ _ ?_
            refine WC.sub (l' := [(0, .slice p N cap), (1, vI m), (2, vI tk), (3, .slice pg gs.length cg), (4, .slice po ot.length co), (10, .bool true), (11, vI d), (13, vI er), (39, .bool false), (53, .bool true)]) ⟨rfl, rfl, rfl, rfl, rfl, rfl, rfl, rfl, rfl, rfl, trivial⟩ ?_
            refine WC.ret ?_
            refine WQ.thenRet ?_
            refine WQ.ret1 10 rfl rfl ?_
            exact ⟨rfl, HP.below hH11⟩
          ·
            refine WL.pure (v := .bool false) 52 rfl (Nat.le_of_ble_eq_true rfl) rfl rfl (x_gtr rfl rfl rfl (dF (hd2))) ?_
            refine WL.pure (v := .bool false) 53 rfl (Nat.le_of_ble_eq_true rfl) rfl rfl (by kernel_rfl) ?_
            refine WL.nil ?_
            refine WQ.then ?_
            refine hK13 _ _ _ ?_
            refine WC.no rfl ?_
            refine WC.skip ?_
            refine WQ.then ?_
            refine hK12 _ _ _ ?_
            refine WC.seq fun K16 hK16 => ?_
            have hW : WorstOk o sp N m tk d := by
              rcases hfr with ⟨h, -⟩ | ⟨-, h⟩
              · omega
              · exact h
            have hd1 := hW.d1
            have hokl := okL_iff.1 hW.okl
            obtain ⟨hlen1, hlen2⟩ := owl_len (o := o) (sp := sp) N (fun q hq => (okS1_iff.1 (hokl.2.2 q hq)).2)
            refine WC.region ?_
            refine WL.pure (v := .slice none 0 0) 14 rfl (Nat.le_of_ble_eq_true rfl) rfl rfl (by kernel_rfl) ?_
            refine WL.nil ?_
            refine WQ.then ?_
            refine hK16 _ _ _ ?_
            refine WC.seq fun K17 hK17 => ?_
            refine WC.region ?_
            refine WL.pure (v := .slice none 0 0) 15 rfl (Nat.le_of_ble_eq_true rfl) rfl rfl (by kernel_rfl) ?_
            refine WL.nil ?_
            refine WQ.then ?_
            refine hK17 _ _ _ ?_
            refine WC.seq fun K18 hK18 => ?_
            refine WC.region ?_
            refine WL.pure (v := vI 0) 16 rfl (Nat.le_of_ble_eq_true rfl) rfl rfl (by kernel_rfl) ?_
            refine WL.nil ?_
            refine WQ.then ?_
            refine hK18 _ _ _ ?_
            refine WC.seq fun K19 hK19 => ?_
            refine WC.seq fun K20 hK20 => ?_
            refine WC.region ?_
            refine WL.pure (v := vI 0) 17 rfl (Nat.le_of_ble_eq_true rfl) rfl rfl (by kernel_rfl) ?_
            refine WL.nil ?_
            refine WQ.then ?_
            refine hK20 _ _ _ ?_
            refine WC.block ?_
            refine WC.loop (fun kk0 ll0 ww0 => ∃ (i : Nat) (t : Int) (qs : List Rq) (ev : List T2) (pv1 : Option Addr) (cp1 : Nat) (pv2 : Option Addr) (cp2 : Nat), ll0 = [(0, .slice p N cap), (1, vI m), (2, vI tk), (3, .slice pg gs.length cg), (4, .slice po ot.length co), (11, vI d), (14, .slice pv1 qs.length cp1), (15, .slice pv2 ev.length cp2), (16, vI t), (17, vI (i : Int))] ∧ kk0 = gs.length - i ∧ (i ≤ gs.length) ∧ (qs.length ≤ i) ∧ (t ≤ i * 2063) ∧ (Gn m tk d qs ev t) ∧ HP Tr w ww0 [rowQ pv1 qs.length cp1 qs, rowT pv2 ev.length cp2 ev]) (gs.length) [(0, .slice p N cap), (1, vI m), (2, vI tk), (3, .slice pg gs.length cg), (4, .slice po ot.length co), (11, vI d), (14, .slice none 0 0), (15, .slice none 0 0), (16, vI 0), (17, vI 0)] ⟨rfl, rfl, rfl, rfl, rfl, rfl, rfl, rfl, rfl, rfl, trivial⟩ ⟨0, 0, [], [], none, 0, none, 0, rfl, rfl, Nat.zero_le _, Nat.le_refl _, by omega, Gn.nil _ _ _, HP.eq (HP.ownNil (HP.ownNil hH11 30 3) 31 2) rfl⟩ ?_
            rintro kk l w22 ⟨i, t, qs, ev, pv1, cp1, pv2, cp2, rfl, hkk, hi, hqi, ht9, hGn, hH23⟩ K21 hK21
            refine WC.seq fun K24 hK24 => ?_
            refine WC.seq fun K25 hK25 => ?_
            refine WC.region ?_
            refine WL.pure (v := vI (i : Int)) 60 rfl (Nat.le_of_ble_eq_true rfl) rfl rfl (by kernel_rfl) ?_
            refine WL.pure (v := .slice pg gs.length cg) 61 rfl (Nat.le_of_ble_eq_true rfl) rfl rfl (by kernel_rfl) ?_
            refine WL.pure (v := vI (gs.length : Int)) 62 rfl (Nat.le_of_ble_eq_true rfl) rfl rfl (by kernel_rfl) ?_
            by_cases hlt : (i : Int) < (gs.length : Int)
            ·
              refine WL.pure (v := .bool true) 63 rfl (Nat.le_of_ble_eq_true rfl) rfl rfl (x_lss rfl rfl rfl (dT (hlt))) ?_
              refine WL.nil ?_
              refine WQ.then ?_
              refine hK25 _ _ _ ?_
              refine WC.yes rfl ?_
              refine WC.skip ?_
              refine WQ.then ?_
              refine hK24 _ _ _ ?_
              refine WC.seq fun K26 hK26 => ?_
              refine WC.block ?_
              refine WC.seq fun K27 hK27 => ?_
              obtain ⟨gg, og, rfl, hrowg⟩ := hG (by omega)
              refine WC.region ?_
              refine WL.pure (v := vI t) 66 rfl (Nat.le_of_ble_eq_true rfl) rfl rfl (by kernel_rfl) ?_
              refine WL.pure (v := .slice (some ⟨gg, og, none⟩) gs.length cg) 67 rfl (Nat.le_of_ble_eq_true rfl) rfl rfl (by kernel_rfl) ?_
              refine WL.pure (v := vI (i : Int)) 68 rfl (Nat.le_of_ble_eq_true rfl) rfl rfl (by kernel_rfl) ?_
              refine WL.pure (v := vP gg (og + i)) 69 rfl (Nat.le_of_ble_eq_true rfl) rfl rfl (x_idx (i) (og + i) rfl rfl rfl Try.underlying23 sz3 (by omega) (by omega) (by omega)) ?_
              refine WL.pure (v := vI (gs.getD i 0)) 70 rfl (Nat.le_of_ble_eq_true rfl) rfl rfl (x_load rfl rfl Try.underlying3 rfl ((HP.oldRange hH23 trivial (hrowg i (by omega))) 0 _ rfl)) ?_
              refine WL.pure (v := vI (gs.getD i 0 % 64)) 71 rfl (Nat.le_of_ble_eq_true rfl) rfl rfl (x_and63 rfl rfl rfl) ?_
              have hg0 := Int.emod_nonneg (gs.getD i 0) (show (64 : Int) ≠ 0 by omega)
              have hg1 := Int.emod_lt_of_pos (gs.getD i 0) (show (0 : Int) < 64 by omega)
              have ht0 := hGn.t0
              refine WL.pure (v := vI (t + gs.getD i 0 % 64)) 72 rfl (Nat.le_of_ble_eq_true rfl) rfl rfl (x_add (Z := t + gs.getD i 0 % 64) rfl rfl rfl (by omega) (by omega) (by omega)) ?_
              refine WL.pure (v := vI (t + gs.getD i 0 % 64)) 16 rfl (Nat.le_of_ble_eq_true rfl) rfl rfl (by kernel_rfl) ?_
              refine WL.nil ?_
              refine WQ.then ?_
              refine hK27 _ _ _ ?_
              refine WC.sub (l' := [(0, .slice p N cap), (1, vI m), (2, vI tk), (3, .slice (some ⟨gg, og, none⟩) gs.length cg), (4, .slice po ot.length co), (11, vI d), (14, .slice pv1 qs.length cp1), (15, .slice pv2 ev.length cp2), (16, vI (t + gs.getD i 0 % 64)), (17, vI (i : Int)), (63, .bool true)]) ⟨rfl, rfl, rfl, rfl, rfl, rfl, rfl, rfl, rfl, rfl, rfl, trivial⟩ ?_
              refine WC.seq fun K28 hK28 => ?_
              refine WC.seq fun K29 hK29 => ?_
              refine WC.region ?_
              refine WL.pure (v := vI (t + gs.getD i 0 % 64)) 73 rfl (Nat.le_of_ble_eq_true rfl) rfl rfl (by kernel_rfl) ?_
              by_cases hbig : (10000 : Int) < t + gs.getD i 0 % 64
              ·
                refine WL.pure (v := .bool true) 74 rfl (Nat.le_of_ble_eq_true rfl) rfl rfl (x_gtr rfl rfl rfl (dT (hbig))) ?_
                refine WL.nil ?_
                refine WQ.then ?_
                refine hK29 _ _ _ ?_
                refine WC.yes rfl ?_
                refine WC.exit ?_
                refine WQ.thenExit ?_
                refine WQ.inOther (by decide) ?_
                refine WQ.thenExit ?_
                refine WQ.thenExit ?_
                refine WQ.inExit ?_
                refine WQ.then ?_
                refine hK19 _ _ _ ?_
                refine WC.seq fun K30 hK30 => ?_
                refine WC.region ?_
                refine WL.pure (v := vI d) 91 rfl (Nat.le_of_ble_eq_true rfl) rfl rfl (by kernel_rfl) ?_
                refine WL.pure (v := .agg #[vI 0, vI d, vI 0]) 92 rfl (Nat.le_of_ble_eq_true rfl) rfl rfl (by kernel_rfl) ?_
                refine WL.pure (v := .slice pv2 ev.length cp2) 93 rfl (Nat.le_of_ble_eq_true rfl) rfl rfl (by kernel_rfl) ?_
                have hql := hGn.len
                refine WL.call (f := 5) (args := #[.agg #[vI 0, vI d, vI 0], .slice pv2 ev.length cp2]) 94 rfl (Nat.le_of_ble_eq_true rfl) rfl rfl (by kernel_rfl) ?_
                refine (Allowed_any d pv2 cp2 ev _ (InT.own (HP.get hH23 1 rfl)) hGn.evok (by omega) (by omega) (fun i hi => (hGn.ev_ i (by omega)).2) hGn.ls).mono ?_
                rintro e w31 ⟨rfl, hb32⟩
                refine ⟨_, rfl, ?_⟩
                have hH33 : HP Tr w _ [rowQ pv1 qs.length cp1 qs, rowT pv2 ev.length cp2 ev] := HP.call hH23 hb32
                refine WL.pure (v := .tuple #[.bool true, vI 0]) 90 rfl (Nat.le_of_ble_eq_true rfl) rfl rfl (by kernel_rfl) ?_
                refine WL.pure (v := .bool true) 95 rfl (Nat.le_of_ble_eq_true rfl) rfl rfl (by kernel_rfl) ?_
                refine WL.pure (v := vI 0) 96 rfl (Nat.le_of_ble_eq_true rfl) rfl rfl (by kernel_rfl) ?_
                refine WL.pure (v := .bool true) 18 rfl (Nat.le_of_ble_eq_true rfl) rfl rfl (by kernel_rfl) ?_
                refine WL.pure (v := vI 0) 19 rfl (Nat.le_of_ble_eq_true rfl) rfl rfl (by kernel_rfl) ?_
                refine WL.nil ?_
                refine WQ.then ?_
                refine hK30 _ _ _ ?_
                refine WC.sub (l' := [(0, .slice p N cap), (1, vI m), (2, vI tk), (3, .slice (some ⟨gg, og, none⟩) gs.length cg), (4, .slice po ot.length co), (11, vI d), (14, .slice pv1 qs.length cp1), (15, .slice pv2 ev.length cp2), (16, vI (t + gs.getD i 0 % 64)), (17, vI (i : Int)), (18, .bool true), (19, vI 0), (63, .bool true), (74, .bool true)]) ⟨rfl, rfl, rfl, rfl, rfl, rfl, rfl, rfl, rfl, rfl, rfl, rfl, rfl, rfl, trivial⟩ ?_
                refine WC.seq fun K34 hK34 => ?_
                refine WC.seq fun K35 hK35 => ?_
                refine WC.region ?_
                refine WL.pure (v := .bool true) 97 rfl (Nat.le_of_ble_eq_true rfl) rfl rfl (by kernel_rfl) ?_
                refine WL.pure (v := .bool false) 98 rfl (Nat.le_of_ble_eq_true rfl) rfl rfl (by kernel_rfl) ?_
                refine WL.pure (v := .bool false) 99 rfl (Nat.le_of_ble_eq_true rfl) rfl rfl (by kernel_rfl) ?_
                refine WL.pure (v := vI 0) 100 rfl (Nat.le_of_ble_eq_true rfl) rfl rfl (by kernel_rfl) ?_
                refine WL.pure (v := .bool false) 101 rfl (Nat.le_of_ble_eq_true rfl) rfl rfl (x_neq rfl rfl rfl (by decide)) ?_
                refine WL.pure (v := .bool false) 102 rfl (Nat.le_of_ble_eq_true rfl) rfl rfl (by kernel_rfl) ?_
                refine WL.nil ?_
                refine WQ.then ?_
                refine hK35 _ _ _ ?_
                refine WC.no rfl ?_
                refine WC.skip ?_
                refine WQ.then ?_
                refine hK34 _ _ _ ?_
                refine WC.seq fun K36 hK36 => ?_
                refine WC.region ?_
                refine WL.pure (v := .slice pv1 qs.length cp1) 103 rfl (Nat.le_of_ble_eq_true rfl) rfl rfl (by kernel_rfl) ?_
                refine WL.pure (v := vI (qs.length : Int)) 104 rfl (Nat.le_of_ble_eq_true rfl) rfl rfl (by kernel_rfl) ?_
                refine WL.pure (v := vI (qs.length : Int)) 20 rfl (Nat.le_of_ble_eq_true rfl) rfl rfl (by kernel_rfl) ?_
                refine WL.nil ?_
                refine WQ.then ?_
                refine hK36 _ _ _ ?_
                refine WC.sub (l' := [(0, .slice p N cap), (1, vI m), (2, vI tk), (3, .slice (some ⟨gg, og, none⟩) gs.length cg), (4, .slice po ot.length co), (11, vI d), (14, .slice pv1 qs.length cp1), (15, .slice pv2 ev.length cp2), (16, vI (t + gs.getD i 0 % 64)), (17, vI (i : Int)), (18, .bool true), (19, vI 0), (20, vI (qs.length : Int)), (63, .bool true), (74, .bool true), (102, .bool false)]) ⟨rfl, rfl, rfl, rfl, rfl, rfl, rfl, rfl, rfl, rfl, rfl, rfl, rfl, rfl, rfl, rfl, trivial⟩ ?_
                refine WC.seq fun K37 hK37 => ?_
                refine WC.seq fun K38 hK38 => ?_
                refine WC.region ?_
                refine WL.pure (v := vI 0) 21 rfl (Nat.le_of_ble_eq_true rfl) rfl rfl (by kernel_rfl) ?_
                refine WL.nil ?_
                refine WQ.then ?_
                refine hK38 _ _ _ ?_
                refine WC.block ?_
                refine WC.loop (fun kk0 ll0 ww0 => ∃ (k : Nat) (q2 : List Rq) (pv3 : Option Addr) (cp3 : Nat), ll0 = [(0, .slice p N cap), (1, vI m), (4, .slice po ot.length co), (11, vI d), (14, .slice pv3 q2.length cp3), (20, vI (qs.length : Int)), (21, vI (k : Int))] ∧ kk0 = ot.length - k ∧ (k ≤ ot.length) ∧ (Oth (owl o sp N) m qs q2 k) ∧ HP Tr w ww0 [rowQ pv3 q2.length cp3 q2]) (ot.length) [(0, .slice p N cap), (1, vI m), (4, .slice po ot.length co), (11, vI d), (14, .slice pv1 qs.length cp1), (20, vI (qs.length : Int)), (21, vI 0)] ⟨rfl, rfl, rfl, rfl, rfl, rfl, rfl, trivial⟩ ⟨0, qs, pv1, cp1, rfl, rfl, Nat.zero_le _, Oth.nil _ _ _, (HP.drop hH33 1)⟩ ?_
                rintro kk l w40 ⟨k, q2, pv3, cp3, rfl, hkk, hk, hOth, hH41⟩ K39 hK39
                refine WC.seq fun K42 hK42 => ?_
                refine WC.seq fun K43 hK43 => ?_
                refine WC.region ?_
                refine WL.pure (v := vI (k : Int)) 105 rfl (Nat.le_of_ble_eq_true rfl) rfl rfl (by kernel_rfl) ?_
                refine WL.pure (v := .slice po ot.length co) 106 rfl (Nat.le_of_ble_eq_true rfl) rfl rfl (by kernel_rfl) ?_
                refine WL.pure (v := vI (ot.length : Int)) 107 rfl (Nat.le_of_ble_eq_true rfl) rfl rfl (by kernel_rfl) ?_
                by_cases hlt2 : (k : Int) < (ot.length : Int)
                ·
                  refine WL.pure (v := .bool true) 108 rfl (Nat.le_of_ble_eq_true rfl) rfl rfl (x_lss rfl rfl rfl (dT (hlt2))) ?_
                  refine WL.nil ?_
                  refine WQ.then ?_
                  refine hK43 _ _ _ ?_
                  refine WC.yes rfl ?_
                  refine WC.skip ?_
                  refine WQ.then ?_
                  refine hK42 _ _ _ ?_
                  refine WC.seq fun K44 hK44 => ?_
                  refine WC.block ?_
                  refine WC.seq fun K45 hK45 => ?_
                  obtain ⟨go, oo, rfl, hrowo⟩ := hO (by omega)
                  refine WC.region ?_
                  refine WL.pure (v := .slice p N cap) 112 rfl (Nat.le_of_ble_eq_true rfl) rfl rfl (by kernel_rfl) ?_
                  refine WL.pure (v := .slice (some ⟨go, oo, none⟩) ot.length co) 113 rfl (Nat.le_of_ble_eq_true rfl) rfl rfl (by kernel_rfl) ?_
                  refine WL.pure (v := vI (k : Int)) 114 rfl (Nat.le_of_ble_eq_true rfl) rfl rfl (by kernel_rfl) ?_
                  refine WL.pure (v := vP go (oo + k * 3)) 115 rfl (Nat.le_of_ble_eq_true rfl) rfl rfl (x_idx (k) (oo + k * 3) rfl rfl rfl Try.underlying24 sz30 (by omega) (by omega) (by omega)) ?_
                  refine WL.pure (v := .agg #[vI (qM ot k), vI (qT ot k), vI (qN ot k)]) 116 rfl (Nat.le_of_ble_eq_true rfl) rfl rfl (x_loadS (cs := [vI (qM ot k), vI (qT ot k), vI (qN ot k)]) rfl rfl Try.underlying30 rfl sz30 (HP.oldRange hH41 trivial (hrowo k (by omega)))) ?_
                  refine WL.call (f := 6) (args := #[.slice p N cap, .agg #[vI (qM ot k), vI (qT ot k), vI (qN ot k)]]) 117 rfl (Nat.le_of_ble_eq_true rfl) rfl rfl (by kernel_rfl) ?_
                  refine (rEnd_any p N cap o sp (qM ot k) (qT ot k) (qN ot k) _ (hS.below (HP.below hH41)) hokl).mono ?_
                  rintro e w46 ⟨d2, er2, rfl, hE2, hb47⟩
                  refine ⟨_, rfl, ?_⟩
                  have hH48 : HP Tr w _ [rowQ pv3 q2.length cp3 q2] := HP.call hH41 hb47
                  refine WL.pure (v := .tuple #[vI d2, vI er2]) 111 rfl (Nat.le_of_ble_eq_true rfl) rfl rfl (by kernel_rfl) ?_
                  refine WL.pure (v := vI d2) 118 rfl (Nat.le_of_ble_eq_true rfl) rfl rfl (by kernel_rfl) ?_
                  refine WL.pure (v := vI er2) 119 rfl (Nat.le_of_ble_eq_true rfl) rfl rfl (by kernel_rfl) ?_
                  refine WL.pure (v := vI d2) 22 rfl (Nat.le_of_ble_eq_true rfl) rfl rfl (by kernel_rfl) ?_
                  refine WL.pure (v := vI er2) 23 rfl (Nat.le_of_ble_eq_true rfl) rfl rfl (by kernel_rfl) ?_
                  refine WL.nil ?_
                  refine WQ.then ?_
                  refine hK45 _ _ _ ?_
                  refine WC.sub (l' := [(0, .slice p N cap), (1, vI m), (4, .slice (some ⟨go, oo, none⟩) ot.length co), (11, vI d), (14, .slice pv3 q2.length cp3), (20, vI (qs.length : Int)), (21, vI (k : Int)), (23, vI er2), (108, .bool true)]) ⟨rfl, rfl, rfl, rfl, rfl, rfl, rfl, rfl, rfl, trivial⟩ ?_
                  refine WC.seq fun K49 hK49 => ?_
                  refine WC.region ?_
                  refine WL.pure (v := .slice (some ⟨go, oo, none⟩) ot.length co) 120 rfl (Nat.le_of_ble_eq_true rfl) rfl rfl (by kernel_rfl) ?_
                  refine WL.pure (v := vI (k : Int)) 121 rfl (Nat.le_of_ble_eq_true rfl) rfl rfl (by kernel_rfl) ?_
                  refine WL.pure (v := vP go (oo + k * 3)) 122 rfl (Nat.le_of_ble_eq_true rfl) rfl rfl (x_idx (k) (oo + k * 3) rfl rfl rfl Try.underlying24 sz30 (by omega) (by omega) (by omega)) ?_
                  refine WL.pure (v := vP go (oo + k * 3)) 123 rfl (Nat.le_of_ble_eq_true rfl) rfl rfl (by kernel_rfl) ?_
                  refine WL.pure (v := vI (qM ot k)) 124 rfl (Nat.le_of_ble_eq_true rfl) rfl rfl (x_load rfl rfl Try.underlying3 rfl ((HP.oldRange hH48 trivial (hrowo k (by omega))) 0 _ rfl)) ?_
                  refine WL.pure (v := vI m) 125 rfl (Nat.le_of_ble_eq_true rfl) rfl rfl (by kernel_rfl) ?_
                  by_cases hne : qM ot k ≠ m
                  ·
                    refine WL.pure (v := .bool true) 126 rfl (Nat.le_of_ble_eq_true rfl) rfl rfl (x_neq rfl rfl rfl (dT (hne))) ?_
                    refine WL.pure (v := .bool true) 127 rfl (Nat.le_of_ble_eq_true rfl) rfl rfl (by kernel_rfl) ?_
                    refine WL.pure (v := vI er2) 128 rfl (Nat.le_of_ble_eq_true rfl) rfl rfl (by kernel_rfl) ?_
                    by_cases he2 : er2 = 0
                    ·
                      refine WL.pure (v := .bool true) 129 rfl (Nat.le_of_ble_eq_true rfl) rfl rfl (x_eql rfl rfl rfl (dT (he2))) ?_
                      refine WL.pure (v := .bool true) 130 rfl (Nat.le_of_ble_eq_true rfl) rfl rfl (by kernel_rfl) ?_
                      refine WL.nil ?_
                      refine WQ.then ?_
                      refine hK49 _ _ _ ?_
                      refine WC.sub (l' := [(0, .slice p N cap), (1, vI m), (4, .slice (some ⟨go, oo, none⟩) ot.length co), (11, vI d), (14, .slice pv3 q2.length cp3), (20, vI (qs.length : Int)), (21, vI (k : Int)), (23, vI er2), (108, .bool true), (130, .bool true)]) ⟨rfl, rfl, rfl, rfl, rfl, rfl, rfl, rfl, rfl, rfl, trivial⟩ ?_
                      refine WC.yes rfl ?_
                      have hq2l := hOth.len
                      refine WC.region ?_
                      refine WL.pure (v := .slice pv3 q2.length cp3) 131 rfl (Nat.le_of_ble_eq_true rfl) rfl rfl (by kernel_rfl) ?_
                      refine WL.pure (v := .slice (some ⟨go, oo, none⟩) ot.length co) 132 rfl (Nat.le_of_ble_eq_true rfl) rfl rfl (by kernel_rfl) ?_
                      refine WL.pure (v := vI (k : Int)) 133 rfl (Nat.le_of_ble_eq_true rfl) rfl rfl (by kernel_rfl) ?_
                      refine WL.pure (v := vP go (oo + k * 3)) 134 rfl (Nat.le_of_ble_eq_true rfl) rfl rfl (x_idx (k) (oo + k * 3) rfl rfl rfl Try.underlying24 sz30 (by omega) (by omega) (by omega)) ?_
                      refine WL.pure (v := .agg #[vI (qM ot k), vI (qT ot k), vI (qN ot k)]) 135 rfl (Nat.le_of_ble_eq_true rfl) rfl rfl (x_loadS (cs := [vI (qM ot k), vI (qT ot k), vI (qN ot k)]) rfl rfl Try.underlying30 rfl sz30 (HP.oldRange hH48 trivial (hrowo k (by omega)))) ?_
                      refine WL.alloc (c := #[vI (qM ot k), vI (qT ot k), vI (qN ot k)]) (T := 30) hH48 136 rfl (by decide) rfl rfl (fun b50 => vS b50 1 1) (by kernel_rfl) (fun b50 w51 hw51 => ?_)
                      have hH52 : HP Tr w w51 [rowQ pv3 q2.length cp3 q2, .cel b50 #[vI (qM ot k), vI (qT ot k), vI (qN ot k)] 30] := hw51.2
                      have nb50 := hw51.1
                      clear hw51
                      obtain ⟨i0, hi0, hz0, hz1, hz2⟩ := infoQ
                      refine WL.append (news := [vI (qM ot k), vI (qT ot k), vI (qN ot k)]) 0 1 hH52 137 rfl (by decide) rfl rfl rfl rfl Try.underlying24 hi0 hz0 hz1 hz2 rfl (by decide) rfl rfl rfl rfl (by simp [Value.oneCell']) (by unfold maxLen; omega) (by omega) ?_
                      rintro v5 wn5 - hA5
                      obtain ⟨pv5, cp5, rfl⟩ := own_row (HP.get hA5 0 rfl)
                      have e5 : q2.length + 1 = (q2 ++ [(⟨qM ot k, qT ot k, qN ot k⟩ : Rq)]).length := by simp
                      rw [qL_push, e5] at hA5
                      rw [e5]
                      have hH53 : HP Tr w _ [rowQ pv5 (q2 ++ [(⟨qM ot k, qT ot k, qN ot k⟩ : Rq)]).length cp5 (q2 ++ [(⟨qM ot k, qT ot k, qN ot k⟩ : Rq)]), .cel b50 #[vI (qM ot k), vI (qT ot k), vI (qN ot k)] 30] := hA5
                      refine WL.pure (v := .slice pv5 ((q2 ++ [(⟨qM ot k, qT ot k, qN ot k⟩ : Rq)]).length) cp5) 14 rfl (Nat.le_of_ble_eq_true rfl) rfl rfl (by kernel_rfl) ?_
                      refine WL.nil ?_
                      refine WQ.inNormal ?_
                      refine WQ.then ?_
                      refine hK44 _ _ _ ?_
                      refine WC.sub (l' := [(0, .slice p N cap), (1, vI m), (4, .slice (some ⟨go, oo, none⟩) ot.length co), (11, vI d), (14, .slice pv5 ((q2 ++ [(⟨qM ot k, qT ot k, qN ot k⟩ : Rq)]).length) cp5), (20, vI (qs.length : Int)), (21, vI (k : Int)), (23, vI er2), (108, .bool true), (130, .bool true)]) ⟨rfl, rfl, rfl, rfl, rfl, rfl, rfl, rfl, rfl, rfl, trivial⟩ ?_
                      refine WC.region ?_
                      refine WL.pure (v := vI (k : Int)) 109 rfl (Nat.le_of_ble_eq_true rfl) rfl rfl (by kernel_rfl) ?_
                      refine WL.pure (v := vI ((k + 1 : Nat) : Int)) 110 rfl (Nat.le_of_ble_eq_true rfl) rfl rfl (x_add (Z := ((k + 1 : Nat) : Int)) rfl rfl rfl (by omega) (by omega) (by omega)) ?_
                      refine WL.pure (v := vI ((k + 1 : Nat) : Int)) 21 rfl (Nat.le_of_ble_eq_true rfl) rfl rfl (by kernel_rfl) ?_
                      refine WL.nil ?_
                      refine WQ.sub (l' := [(0, .slice p N cap), (1, vI m), (4, .slice (some ⟨go, oo, none⟩) ot.length co), (11, vI d), (14, .slice pv5 ((q2 ++ [(⟨qM ot k, qT ot k, qN ot k⟩ : Rq)]).length) cp5), (20, vI (qs.length : Int)), (21, vI ((k + 1 : Nat) : Int))]) ⟨rfl, rfl, rfl, rfl, rfl, rfl, rfl, trivial⟩ ?_
                      refine WQ.then (hK39 _ _ _ (by omega) ⟨k + 1, (q2 ++ [(⟨qM ot k, qT ot k, qN ot k⟩ : Rq)]), pv5, cp5, rfl, rfl, by omega, hOth.push (hE2 he2) hne, (HP.drop hH53 1)⟩)
                    ·
                      refine WL.pure (v := .bool false) 129 rfl (Nat.le_of_ble_eq_true rfl) rfl rfl (x_eql rfl rfl rfl (dF (he2))) ?_
                      refine WL.pure (v := .bool false) 130 rfl (Nat.le_of_ble_eq_true rfl) rfl rfl (by kernel_rfl) ?_
                      refine WL.nil ?_
                      refine WQ.then ?_
                      refine hK49 _ _ _ ?_
                      refine WC.sub (l' := [(0, .slice p N cap), (1, vI m), (4, .slice (some ⟨go, oo, none⟩) ot.length co), (11, vI d), (14, .slice pv3 q2.length cp3), (20, vI (qs.length : Int)), (21, vI (k : Int)), (23, vI er2), (108, .bool true), (130, .bool false)]) ⟨rfl, rfl, rfl, rfl, rfl, rfl, rfl, rfl, rfl, rfl, trivial⟩ ?_
                      refine WC.no rfl ?_
                      refine WC.skip ?_
                      refine WQ.inNormal ?_
                      refine WQ.then ?_
                      refine hK44 _ _ _ ?_
                      refine WC.region ?_
                      refine WL.pure (v := vI (k : Int)) 109 rfl (Nat.le_of_ble_eq_true rfl) rfl rfl (by kernel_rfl) ?_
                      refine WL.pure (v := vI ((k + 1 : Nat) : Int)) 110 rfl (Nat.le_of_ble_eq_true rfl) rfl rfl (x_add (Z := ((k + 1 : Nat) : Int)) rfl rfl rfl (by omega) (by omega) (by omega)) ?_
                      refine WL.pure (v := vI ((k + 1 : Nat) : Int)) 21 rfl (Nat.le_of_ble_eq_true rfl) rfl rfl (by kernel_rfl) ?_
                      refine WL.nil ?_
                      refine WQ.sub (l' := [(0, .slice p N cap), (1, vI m), (4, .slice (some ⟨go, oo, none⟩) ot.length co), (11, vI d), (14, .slice pv3 q2.length cp3), (20, vI (qs.length : Int)), (21, vI ((k + 1 : Nat) : Int))]) ⟨rfl, rfl, rfl, rfl, rfl, rfl, rfl, trivial⟩ ?_
                      refine WQ.then (hK39 _ _ _ (by omega) ⟨k + 1, q2, pv3, cp3, rfl, rfl, by omega, hOth.skip, hH48⟩)
                  ·
                    refine WL.pure (v := .bool false) 126 rfl (Nat.le_of_ble_eq_true rfl) rfl rfl (x_neq rfl rfl rfl (dF (hne))) ?_
                    refine WL.pure (v := .bool false) 127 rfl (Nat.le_of_ble_eq_true rfl) rfl rfl (by kernel_rfl) ?_
                    refine WL.pass 128 rfl (Nat.le_of_ble_eq_true rfl) rfl ?_
                    refine WL.pass 129 rfl (Nat.le_of_ble_eq_true rfl) rfl ?_
                    refine WL.pure (v := .bool false) 130 rfl (Nat.le_of_ble_eq_true rfl) rfl rfl (by kernel_rfl) ?_
                    refine WL.nil ?_
                    refine WQ.then ?_
                    refine hK49 _ _ _ ?_
                    refine WC.sub (l' := [(0, .slice p N cap), (1, vI m), (4, .slice (some ⟨go, oo, none⟩) ot.length co), (11, vI d), (14, .slice pv3 q2.length cp3), (20, vI (qs.length : Int)), (21, vI (k : Int)), (23, vI er2), (108, .bool true), (130, .bool false)]) ⟨rfl, rfl, rfl, rfl, rfl, rfl, rfl, rfl, rfl, rfl, trivial⟩ ?_
                    refine WC.no rfl ?_
                    refine WC.skip ?_
                    refine WQ.inNormal ?_
                    refine WQ.then ?_
                    refine hK44 _ _ _ ?_
                    refine WC.region ?_
                    refine WL.pure (v := vI (k : Int)) 109 rfl (Nat.le_of_ble_eq_true rfl) rfl rfl (by kernel_rfl) ?_
                    refine WL.pure (v := vI ((k + 1 : Nat) : Int)) 110 rfl (Nat.le_of_ble_eq_true rfl) rfl rfl (x_add (Z := ((k + 1 : Nat) : Int)) rfl rfl rfl (by omega) (by omega) (by omega)) ?_
                    refine WL.pure (v := vI ((k + 1 : Nat) : Int)) 21 rfl (Nat.le_of_ble_eq_true rfl) rfl rfl (by kernel_rfl) ?_
                    refine WL.nil ?_
                    refine WQ.sub (l' := [(0, .slice p N cap), (1, vI m), (4, .slice (some ⟨go, oo, none⟩) ot.length co), (11, vI d), (14, .slice pv3 q2.length cp3), (20, vI (qs.length : Int)), (21, vI ((k + 1 : Nat) : Int))]) ⟨rfl, rfl, rfl, rfl, rfl, rfl, rfl, trivial⟩ ?_
                    refine WQ.then (hK39 _ _ _ (by omega) ⟨k + 1, q2, pv3, cp3, rfl, rfl, by omega, hOth.skip, hH48⟩)
                ·
                  refine WL.pure (v := .bool false) 108 rfl (Nat.le_of_ble_eq_true rfl) rfl rfl (x_lss rfl rfl rfl (dF (hlt2))) ?_
                  refine WL.nil ?_
                  refine WQ.then ?_
                  refine hK43 _ _ _ ?_
                  refine WC.no rfl ?_
                  refine WC.exit ?_
                  refine WQ.thenExit ?_
                  refine WQ.thenExit ?_
                  refine WQ.inExit ?_
                  refine WQ.then ?_
                  refine hK37 _ _ _ ?_
                  refine WC.seq fun K54 hK54 => ?_
                  refine WC.region ?_
                  refine WL.pure (v := .slice p N cap) 139 rfl (Nat.le_of_ble_eq_true rfl) rfl rfl (by kernel_rfl) ?_
                  refine WL.pure (v := .slice pv3 q2.length cp3) 140 rfl (Nat.le_of_ble_eq_true rfl) rfl rfl (by kernel_rfl) ?_
                  have hq2l := hOth.len
                  have hql2 := hGn.len
                  refine WL.call (f := 7) (args := #[.slice p N cap, .slice pv3 q2.length cp3]) 141 rfl (Nat.le_of_ble_eq_true rfl) rfl rfl (by kernel_rfl) ?_
                  refine (Serve_any p N cap o sp pv3 cp3 q2 m tk d qs.length _ (hS.below (HP.below hH41)) (InQ.own (HP.get hH41 0 rfl)) hW.okl (req_ok hW hGn hOth) (by omega) (own_ok hW hGn hOth (by omega))).mono ?_
                  rintro e wt ⟨g4, g5, B, E, rfl, hfin, hb4⟩
                  refine ⟨_, rfl, ?_⟩
                  have hHt := HP.trans hH41 hb4
                  have hQt : InQ wt pv3 q2 := InQ.own (HP.get hHt 0 rfl)
                  have hEr : ∀ i, i < q2.length → World.rangeAt wt g5 i [vI (E i)] := fun i hi => range1 (HP.cell hHt 2 rfl (irow_get hi rfl))
                  have hH55 : HP Tr wt wt [] := HP.refl wt
                  refine WL.pure (v := .tuple #[vS g5 q2.length q2.length, vI 0]) 138 rfl (Nat.le_of_ble_eq_true rfl) rfl rfl (by kernel_rfl) ?_
                  refine WL.pure (v := vS g5 q2.length q2.length) 142 rfl (Nat.le_of_ble_eq_true rfl) rfl rfl (by kernel_rfl) ?_
                  refine WL.pure (v := vI 0) 143 rfl (Nat.le_of_ble_eq_true rfl) rfl rfl (by kernel_rfl) ?_
                  refine WL.pure (v := vS g5 q2.length q2.length) 24 rfl (Nat.le_of_ble_eq_true rfl) rfl rfl (by kernel_rfl) ?_
                  refine WL.pure (v := vI 0) 25 rfl (Nat.le_of_ble_eq_true rfl) rfl rfl (by kernel_rfl) ?_
                  refine WL.nil ?_
                  refine WQ.then ?_
                  refine hK54 _ _ _ ?_
                  refine WC.sub (l' := [(0, .slice p N cap), (1, vI m), (4, .slice po ot.length co), (11, vI d), (14, .slice pv3 q2.length cp3), (20, vI (qs.length : Int)), (21, vI (k : Int)), (24, vS g5 q2.length q2.length), (25, vI 0), (108, .bool false)]) ⟨rfl, rfl, rfl, rfl, rfl, rfl, rfl, rfl, rfl, rfl, trivial⟩ ?_
                  refine WC.seq fun K56 hK56 => ?_
                  refine WC.seq fun K57 hK57 => ?_
                  refine WC.region ?_
                  refine WL.pure (v := vI 0) 144 rfl (Nat.le_of_ble_eq_true rfl) rfl rfl (by kernel_rfl) ?_
                  refine WL.pure (v := .bool false) 145 rfl (Nat.le_of_ble_eq_true rfl) rfl rfl (x_neq rfl rfl rfl (by decide)) ?_
                  refine WL.pure (v := .bool false) 146 rfl (Nat.le_of_ble_eq_true rfl) rfl rfl (by kernel_rfl) ?_
                  refine WL.pure (v := vS g5 q2.length q2.length) 147 rfl (Nat.le_of_ble_eq_true rfl) rfl rfl (by kernel_rfl) ?_
                  refine WL.pure (v := vI (q2.length : Int)) 148 rfl (Nat.le_of_ble_eq_true rfl) rfl rfl (by kernel_rfl) ?_
                  refine WL.pure (v := .slice pv3 q2.length cp3) 149 rfl (Nat.le_of_ble_eq_true rfl) rfl rfl (by kernel_rfl) ?_
                  refine WL.pure (v := vI (q2.length : Int)) 150 rfl (Nat.le_of_ble_eq_true rfl) rfl rfl (by kernel_rfl) ?_
                  refine WL.pure (v := .bool false) 151 rfl (Nat.le_of_ble_eq_true rfl) rfl rfl (x_neq rfl rfl rfl (dF (fun h => h rfl))) ?_
                  refine WL.pure (v := .bool false) 152 rfl (Nat.le_of_ble_eq_true rfl) rfl rfl (by kernel_rfl) ?_
                  refine WL.nil ?_
                  refine WQ.then ?_
                  refine hK57 _ _ _ ?_
                  refine WC.sub (l' := [(0, .slice p N cap), (1, vI m), (4, .slice po ot.length co), (11, vI d), (14, .slice pv3 q2.length cp3), (20, vI (qs.length : Int)), (21, vI (k : Int)), (24, vS g5 q2.length q2.length), (25, vI 0), (108, .bool false), (152, .bool false)]) ⟨rfl, rfl, rfl, rfl, rfl, rfl, rfl, rfl, rfl, rfl, rfl, trivial⟩ ?_
                  refine WC.no rfl ?_
                  refine WC.skip ?_
                  refine WQ.then ?_
                  refine hK56 _ _ _ ?_
                  refine WC.seq fun K58 hK58 => ?_
                  refine WC.seq fun K59 hK59 => ?_
                  refine WC.region ?_
                  refine WL.pure (v := vI 0) 26 rfl (Nat.le_of_ble_eq_true rfl) rfl rfl (by kernel_rfl) ?_
                  refine WL.nil ?_
                  refine WQ.then ?_
                  refine hK59 _ _ _ ?_
                  refine WC.block ?_
                  refine WC.loop (fun kk0 ll0 ww0 => ∃ (j : Nat), ll0 = [(11, vI d), (14, .slice pv3 q2.length cp3), (20, vI (qs.length : Int)), (24, vS g5 q2.length q2.length), (26, vI (j : Int))] ∧ kk0 = qs.length - j ∧ (j ≤ qs.length) ∧ HP Tr wt ww0 []) (qs.length) [(11, vI d), (14, .slice pv3 q2.length cp3), (20, vI (qs.length : Int)), (24, vS g5 q2.length q2.length), (26, vI 0)] ⟨rfl, rfl, rfl, rfl, rfl, trivial⟩ ⟨0, rfl, rfl, Nat.zero_le _, hH55⟩ ?_
                  rintro kk l w61 ⟨j, rfl, hkk, hj, hH62⟩ K60 hK60
                  refine WC.seq fun K63 hK63 => ?_
                  refine WC.seq fun K64 hK64 => ?_
                  refine WC.region ?_
                  refine WL.pure (v := vI (j : Int)) 153 rfl (Nat.le_of_ble_eq_true rfl) rfl rfl (by kernel_rfl) ?_
                  refine WL.pure (v := vI (qs.length : Int)) 154 rfl (Nat.le_of_ble_eq_true rfl) rfl rfl (by kernel_rfl) ?_
                  by_cases hlt3 : (j : Int) < (qs.length : Int)
                  ·
                    refine WL.pure (v := .bool true) 155 rfl (Nat.le_of_ble_eq_true rfl) rfl rfl (x_lss rfl rfl rfl (dT (hlt3))) ?_
                    refine WL.nil ?_
                    refine WQ.then ?_
                    refine hK64 _ _ _ ?_
                    refine WC.yes rfl ?_
                    refine WC.skip ?_
                    refine WQ.then ?_
                    refine hK63 _ _ _ ?_
                    refine WC.seq fun K65 hK65 => ?_
                    refine WC.block ?_
                    refine WC.seq fun K66 hK66 => ?_
                    obtain ⟨gz, oz, rfl, hrowz⟩ := hQt (by omega)
                    have hfi := hfin j (by omega)
                    have hrq := (okR_iff.1 (req_ok hW hGn hOth j (by omega)).1).2.1
                    refine WC.confG (γ := Unit) [(155, .bool true), (154, vI (qs.length : Int)), (153, vI (j : Int)), (11, vI d), (14, .slice (some ⟨gz, oz, none⟩) q2.length cp3), (20, vI (qs.length : Int)), (24, vS g5 q2.length q2.length), (26, vI (j : Int))] (fun gy => [vS g5 q2.length q2.length, vI (j : Int), vP g5 j, vI (E j), .slice (some ⟨gz, oz, none⟩) q2.length cp3, vI (j : Int), vP gz (oz + j * 3), vP gz (oz + j * 3 + 1), vI (qT q2 j), vI ((E j) - (qT q2 j)), vI d, .bool false]) (fun gy D wz => HP Tr wt wz []) () (by kernel_rfl) ⟨rfl, rfl, rfl, rfl, rfl, rfl, rfl, rfl, trivial⟩ (by kernel_rfl) (by kernel_rfl) (by kernel_rfl) (fun _ => rfl) (by kernel_rfl) (HP.drew hH62) ?_ ?_
                    · refine AllOk.cons ?o0 (AllOk.cons ?o1 (AllOk.cons ?o2 (AllOk.cons ?o3 (AllOk.cons ?o4 (AllOk.cons ?o5 (AllOk.cons ?o6 (AllOk.cons ?o7 (AllOk.cons ?o8 (AllOk.cons ?o9 (AllOk.cons ?o10 (AllOk.cons ?o11 (AllOk.nil _))))))))))))
                      case o0 =>
                        intro gy D wz hDi hdep hclo hW
                        exact .inl ⟨rfl, rfl, .inl ⟨gy, wz, fun _ _ => rfl, by kernel_rfl, hW⟩⟩
                      case o1 =>
                        intro gy D wz hDi hdep hclo hW
                        exact .inl ⟨rfl, rfl, .inl ⟨gy, wz, fun _ _ => rfl, by kernel_rfl, hW⟩⟩
                      case o2 =>
                        intro gy D wz hDi hdep hclo hW
                        exact .inl ⟨rfl, rfl, .inl ⟨gy, wz, fun _ _ => rfl, x_idx (j) (j) rfl rfl rfl Try.underlying23 sz3 (by omega) (by omega) (by omega), hW⟩⟩
                      case o3 =>
                        intro gy D wz hDi hdep hclo hW
                        exact .inl ⟨rfl, rfl, .inl ⟨gy, wz, fun _ _ => rfl, x_load rfl rfl Try.underlying3 rfl ((HP.oldRange hW trivial (hEr j (by omega))) 0 _ rfl), hW⟩⟩
                      case o4 =>
                        intro gy D wz hDi hdep hclo hW
                        exact .inl ⟨rfl, rfl, .inl ⟨gy, wz, fun _ _ => rfl, by kernel_rfl, hW⟩⟩
                      case o5 =>
                        intro gy D wz hDi hdep hclo hW
                        exact .inl ⟨rfl, rfl, .inl ⟨gy, wz, fun _ _ => rfl, by kernel_rfl, hW⟩⟩
                      case o6 =>
                        intro gy D wz hDi hdep hclo hW
                        exact .inl ⟨rfl, rfl, .inl ⟨gy, wz, fun _ _ => rfl, x_idx (j) (oz + j * 3) rfl rfl rfl Try.underlying24 sz30 (by omega) (by omega) (by omega), hW⟩⟩
                      case o7 =>
                        intro gy D wz hDi hdep hclo hW
                        exact .inl ⟨rfl, rfl, .inl ⟨gy, wz, fun _ _ => rfl, by kernel_rfl, hW⟩⟩
                      case o8 =>
                        intro gy D wz hDi hdep hclo hW
                        exact .inl ⟨rfl, rfl, .inl ⟨gy, wz, fun _ _ => rfl, x_load rfl rfl Try.underlying3 rfl ((HP.oldRange hW trivial (hrowz j (by omega))) 1 _ rfl), hW⟩⟩
                      case o9 =>
                        intro gy D wz hDi hdep hclo hW
                        exact .inl ⟨rfl, rfl, .inl ⟨gy, wz, fun _ _ => rfl, x_sub (Z := (E j) - (qT q2 j)) rfl rfl rfl (by omega) (by omega) (by omega), hW⟩⟩
                      case o10 =>
                        intro gy D wz hDi hdep hclo hW
                        exact .inl ⟨rfl, rfl, .inl ⟨gy, wz, fun _ _ => rfl, by kernel_rfl, hW⟩⟩
                      case o11 =>
                        intro gy D wz hDi hdep hclo hW
                        exact .inl ⟨rfl, rfl, .inl ⟨gy, wz, fun _ _ => rfl, x_gtr rfl rfl rfl (dF (by omega)), hW⟩⟩
                    rintro gy D w67 hall hH68
                    clear hall
                    refine WQ.sub (l' := [(11, vI d), (14, .slice (some ⟨gz, oz, none⟩) q2.length cp3), (20, vI (qs.length : Int)), (24, vS g5 q2.length q2.length), (26, vI (j : Int)), (155, .bool true), (169, .bool false)]) ⟨rfl, rfl, rfl, rfl, rfl, rfl, rfl, trivial⟩ ?_
                    refine WQ.then ?_
                    refine hK66 _ _ _ ?_
                    refine WC.no rfl ?_
                    refine WC.skip ?_
                    refine WQ.inNormal ?_
                    refine WQ.then ?_
                    refine hK65 _ _ _ ?_
                    refine WC.region ?_
                    refine WL.pure (v := vI (j : Int)) 156 rfl (Nat.le_of_ble_eq_true rfl) rfl rfl (by kernel_rfl) ?_
                    refine WL.pure (v := vI ((j + 1 : Nat) : Int)) 157 rfl (Nat.le_of_ble_eq_true rfl) rfl rfl (x_add (Z := ((j + 1 : Nat) : Int)) rfl rfl rfl (by omega) (by omega) (by omega)) ?_
                    refine WL.pure (v := vI ((j + 1 : Nat) : Int)) 26 rfl (Nat.le_of_ble_eq_true rfl) rfl rfl (by kernel_rfl) ?_
                    refine WL.nil ?_
                    refine WQ.sub (l' := [(11, vI d), (14, .slice (some ⟨gz, oz, none⟩) q2.length cp3), (20, vI (qs.length : Int)), (24, vS g5 q2.length q2.length), (26, vI ((j + 1 : Nat) : Int))]) ⟨rfl, rfl, rfl, rfl, rfl, trivial⟩ ?_
                    refine WQ.then (hK60 _ _ _ (by omega) ⟨j + 1, rfl, rfl, by omega, hH68⟩)
                  ·
                    refine WL.pure (v := .bool false) 155 rfl (Nat.le_of_ble_eq_true rfl) rfl rfl (x_lss rfl rfl rfl (dF (hlt3))) ?_
                    refine WL.nil ?_
                    refine WQ.then ?_
                    refine hK64 _ _ _ ?_
                    refine WC.no rfl ?_
                    refine WC.exit ?_
                    refine WQ.thenExit ?_
                    refine WQ.thenExit ?_
                    refine WQ.inExit ?_
                    refine WQ.then ?_
                    refine hK58 _ _ _ ?_
                    refine WC.seq fun K69 hK69 => ?_
                    refine WC.region ?_
                    refine WL.pure (v := .bool true) 10 rfl (Nat.le_of_ble_eq_true rfl) rfl rfl (by kernel_rfl) ?_
                    refine WL.nil ?_
                    refine WQ.then ?_
                    refine hK69 _ _ _ ?_
                    refine WC.ret ?_
                    refine WQ.ret1 10 rfl rfl ?_
                    exact ⟨rfl, HP.below (HP.call hHt (HP.below hH62))⟩
              ·
                refine WL.pure (v := .bool false) 74 rfl (Nat.le_of_ble_eq_true rfl) rfl rfl (x_gtr rfl rfl rfl (dF (hbig))) ?_
                refine WL.nil ?_
                refine WQ.then ?_
                refine hK29 _ _ _ ?_
                refine WC.no rfl ?_
                refine WC.skip ?_
                refine WQ.then ?_
                refine hK28 _ _ _ ?_
                refine WC.seq fun K70 hK70 => ?_
                have hql := hGn.len
                refine WC.region ?_
                refine WL.pure (v := .slice pv1 qs.length cp1) 75 rfl (Nat.le_of_ble_eq_true rfl) rfl rfl (by kernel_rfl) ?_
                refine WL.pure (v := vI m) 76 rfl (Nat.le_of_ble_eq_true rfl) rfl rfl (by kernel_rfl) ?_
                refine WL.pure (v := vI (t + gs.getD i 0 % 64)) 77 rfl (Nat.le_of_ble_eq_true rfl) rfl rfl (by kernel_rfl) ?_
                refine WL.pure (v := vI tk) 78 rfl (Nat.le_of_ble_eq_true rfl) rfl rfl (by kernel_rfl) ?_
                refine WL.pure (v := .agg #[vI m, vI (t + gs.getD i 0 % 64), vI tk]) 79 rfl (Nat.le_of_ble_eq_true rfl) rfl rfl (by kernel_rfl) ?_
                refine WL.alloc (c := #[vI m, vI (t + gs.getD i 0 % 64), vI tk]) (T := 30) hH23 80 rfl (by decide) rfl rfl (fun b71 => vS b71 1 1) (by kernel_rfl) (fun b71 w72 hw72 => ?_)
                have hH73 : HP Tr w w72 [rowQ pv1 qs.length cp1 qs, rowT pv2 ev.length cp2 ev, .cel b71 #[vI m, vI (t + gs.getD i 0 % 64), vI tk] 30] := hw72.2
                have nb71 := hw72.1
                clear hw72
                obtain ⟨i0, hi0, hz0, hz1, hz2⟩ := infoQ
                refine WL.append (news := [vI m, vI (t + gs.getD i 0 % 64), vI tk]) 0 2 hH73 81 rfl (by decide) rfl rfl rfl rfl Try.underlying24 hi0 hz0 hz1 hz2 rfl (by decide) rfl rfl rfl rfl (by simp [Value.oneCell']) (by unfold maxLen; omega) (by omega) ?_
                rintro v7 wn7 - hA7
                obtain ⟨pv7, cp7, rfl⟩ := own_row (HP.get hA7 0 rfl)
                have e7 : qs.length + 1 = (qs ++ [(⟨m, t + gs.getD i 0 % 64, tk⟩ : Rq)]).length := by simp
                rw [qL_push, e7] at hA7
                rw [e7]
                have hH74 : HP Tr w _ [rowQ pv7 (qs ++ [(⟨m, t + gs.getD i 0 % 64, tk⟩ : Rq)]).length cp7 (qs ++ [(⟨m, t + gs.getD i 0 % 64, tk⟩ : Rq)]), rowT pv2 ev.length cp2 ev, .cel b71 #[vI m, vI (t + gs.getD i 0 % 64), vI tk] 30] := hA7
                refine WL.pure (v := .slice pv7 ((qs ++ [(⟨m, t + gs.getD i 0 % 64, tk⟩ : Rq)]).length) cp7) 14 rfl (Nat.le_of_ble_eq_true rfl) rfl rfl (by kernel_rfl) ?_
                refine WL.nil ?_
                refine WQ.then ?_
                refine hK70 _ _ _ ?_
                refine WC.sub (l' := [(0, .slice p N cap), (1, vI m), (2, vI tk), (3, .slice (some ⟨gg, og, none⟩) gs.length cg), (4, .slice po ot.length co), (11, vI d), (14, .slice pv7 ((qs ++ [(⟨m, t + gs.getD i 0 % 64, tk⟩ : Rq)]).length) cp7), (15, .slice pv2 ev.length cp2), (16, vI (t + gs.getD i 0 % 64)), (17, vI (i : Int)), (63, .bool true), (74, .bool false)]) ⟨rfl, rfl, rfl, rfl, rfl, rfl, rfl, rfl, rfl, rfl, rfl, rfl, trivial⟩ ?_
                refine WC.seq fun K75 hK75 => ?_
                refine WC.region ?_
                refine WL.pure (v := .slice pv2 ev.length cp2) 82 rfl (Nat.le_of_ble_eq_true rfl) rfl rfl (by kernel_rfl) ?_
                refine WL.pure (v := vI (t + gs.getD i 0 % 64)) 83 rfl (Nat.le_of_ble_eq_true rfl) rfl rfl (by kernel_rfl) ?_
                refine WL.pure (v := .agg #[vI (t + gs.getD i 0 % 64), vI 0]) 84 rfl (Nat.le_of_ble_eq_true rfl) rfl rfl (by kernel_rfl) ?_
                refine WL.alloc (c := #[vI (t + gs.getD i 0 % 64), vI 0]) (T := 31) hH74 85 rfl (by decide) rfl rfl (fun b76 => vS b76 1 1) (by kernel_rfl) (fun b76 w77 hw77 => ?_)
                have hH78 : HP Tr w w77 [rowQ pv7 (qs ++ [(⟨m, t + gs.getD i 0 % 64, tk⟩ : Rq)]).length cp7 (qs ++ [(⟨m, t + gs.getD i 0 % 64, tk⟩ : Rq)]), rowT pv2 ev.length cp2 ev, .cel b71 #[vI m, vI (t + gs.getD i 0 % 64), vI tk] 30, .cel b76 #[vI (t + gs.getD i 0 % 64), vI 0] 31] := hw77.2
                have nb76 := hw77.1
                clear hw77
                obtain ⟨i0, hi0, hz0, hz1, hz2⟩ := infoT
                refine WL.append (news := [vI (t + gs.getD i 0 % 64), vI 0]) 1 3 hH78 86 rfl (by decide) rfl rfl rfl rfl Try.underlying28 hi0 hz0 hz1 hz2 rfl (by decide) rfl rfl rfl rfl (by simp [Value.oneCell']) (by unfold maxLen; omega) (by omega) ?_
                rintro v9 wn9 - hA9
                obtain ⟨pv9, cp9, rfl⟩ := own_row (HP.get hA9 1 rfl)
                have e9 : ev.length + 1 = (ev ++ [(t + gs.getD i 0 % 64, 0)]).length := by simp
                rw [tL_push, e9] at hA9
                rw [e9]
                have hH79 : HP Tr w _ [rowQ pv7 (qs ++ [(⟨m, t + gs.getD i 0 % 64, tk⟩ : Rq)]).length cp7 (qs ++ [(⟨m, t + gs.getD i 0 % 64, tk⟩ : Rq)]), rowT pv9 (ev ++ [(t + gs.getD i 0 % 64, 0)]).length cp9 (ev ++ [(t + gs.getD i 0 % 64, 0)]), .cel b71 #[vI m, vI (t + gs.getD i 0 % 64), vI tk] 30, .cel b76 #[vI (t + gs.getD i 0 % 64), vI 0] 31] := hA9
                refine WL.pure (v := .slice pv9 ((ev ++ [(t + gs.getD i 0 % 64, 0)]).length) cp9) 15 rfl (Nat.le_of_ble_eq_true rfl) rfl rfl (by kernel_rfl) ?_
                refine WL.nil ?_
                refine WQ.then ?_
                refine hK75 _ _ _ ?_
                refine WC.sub (l' := [(0, .slice p N cap), (1, vI m), (2, vI tk), (3, .slice (some ⟨gg, og, none⟩) gs.length cg), (4, .slice po ot.length co), (11, vI d), (14, .slice pv7 ((qs ++ [(⟨m, t + gs.getD i 0 % 64, tk⟩ : Rq)]).length) cp7), (15, .slice pv9 ((ev ++ [(t + gs.getD i 0 % 64, 0)]).length) cp9), (16, vI (t + gs.getD i 0 % 64)), (17, vI (i : Int)), (63, .bool true), (74, .bool false)]) ⟨rfl, rfl, rfl, rfl, rfl, rfl, rfl, rfl, rfl, rfl, rfl, rfl, trivial⟩ ?_
                refine WC.region ?_
                refine WL.pure (v := vI (t + gs.getD i 0 % 64)) 87 rfl (Nat.le_of_ble_eq_true rfl) rfl rfl (by kernel_rfl) ?_
                refine WL.pure (v := vI d) 88 rfl (Nat.le_of_ble_eq_true rfl) rfl rfl (by kernel_rfl) ?_
                refine WL.pure (v := vI (t + gs.getD i 0 % 64 + d)) 89 rfl (Nat.le_of_ble_eq_true rfl) rfl rfl (x_add (Z := t + gs.getD i 0 % 64 + d) rfl rfl rfl (by omega) (by omega) (by omega)) ?_
                refine WL.pure (v := vI (t + gs.getD i 0 % 64 + d)) 16 rfl (Nat.le_of_ble_eq_true rfl) rfl rfl (by kernel_rfl) ?_
                refine WL.nil ?_
                refine WQ.inNormal ?_
                refine WQ.then ?_
                refine hK26 _ _ _ ?_
                refine WC.region ?_
                refine WL.pure (v := vI (i : Int)) 64 rfl (Nat.le_of_ble_eq_true rfl) rfl rfl (by kernel_rfl) ?_
                refine WL.pure (v := vI ((i + 1 : Nat) : Int)) 65 rfl (Nat.le_of_ble_eq_true rfl) rfl rfl (x_add (Z := ((i + 1 : Nat) : Int)) rfl rfl rfl (by omega) (by omega) (by omega)) ?_
                refine WL.pure (v := vI ((i + 1 : Nat) : Int)) 17 rfl (Nat.le_of_ble_eq_true rfl) rfl rfl (by kernel_rfl) ?_
                refine WL.nil ?_
                refine WQ.sub (l' := [(0, .slice p N cap), (1, vI m), (2, vI tk), (3, .slice (some ⟨gg, og, none⟩) gs.length cg), (4, .slice po ot.length co), (11, vI d), (14, .slice pv7 ((qs ++ [(⟨m, t + gs.getD i 0 % 64, tk⟩ : Rq)]).length) cp7), (15, .slice pv9 ((ev ++ [(t + gs.getD i 0 % 64, 0)]).length) cp9), (16, vI (t + gs.getD i 0 % 64 + d)), (17, vI ((i + 1 : Nat) : Int))]) ⟨rfl, rfl, rfl, rfl, rfl, rfl, rfl, rfl, rfl, rfl, trivial⟩ ?_
                refine WQ.then (hK21 _ _ _ (by omega) ⟨i + 1, t + gs.getD i 0 % 64 + d, (qs ++ [(⟨m, t + gs.getD i 0 % 64, tk⟩ : Rq)]), (ev ++ [(t + gs.getD i 0 % 64, 0)]), pv7, cp7, pv9, cp9, rfl, rfl, by omega, by simp; omega, by omega, hGn.push (by omega) (by omega) (by omega), (HP.drop (HP.drop hH79 3) 2)⟩)
            ·
              refine WL.pure (v := .bool false) 63 rfl (Nat.le_of_ble_eq_true rfl) rfl rfl (x_lss rfl rfl rfl (dF (hlt))) ?_
              refine WL.nil ?_
              refine WQ.then ?_
              refine hK25 _ _ _ ?_
              refine WC.no rfl ?_
              refine WC.exit ?_
              refine WQ.thenExit ?_
              refine WQ.thenExit ?_
              refine WQ.inExit ?_
              refine WQ.then ?_
              refine hK19 _ _ _ ?_
              refine WC.seq fun K80 hK80 => ?_
              refine WC.region ?_
              refine WL.pure (v := vI d) 91 rfl (Nat.le_of_ble_eq_true rfl) rfl rfl (by kernel_rfl) ?_
              refine WL.pure (v := .agg #[vI 0, vI d, vI 0]) 92 rfl (Nat.le_of_ble_eq_true rfl) rfl rfl (by kernel_rfl) ?_
              refine WL.pure (v := .slice pv2 ev.length cp2) 93 rfl (Nat.le_of_ble_eq_true rfl) rfl rfl (by kernel_rfl) ?_
              have hql := hGn.len
              refine WL.call (f := 5) (args := #[.agg #[vI 0, vI d, vI 0], .slice pv2 ev.length cp2]) 94 rfl (Nat.le_of_ble_eq_true rfl) rfl rfl (by kernel_rfl) ?_
              refine (Allowed_any d pv2 cp2 ev _ (InT.own (HP.get hH23 1 rfl)) hGn.evok (by omega) (by omega) (fun i hi => (hGn.ev_ i (by omega)).2) hGn.ls).mono ?_
              rintro e w81 ⟨rfl, hb82⟩
              refine ⟨_, rfl, ?_⟩
              have hH83 : HP Tr w _ [rowQ pv1 qs.length cp1 qs, rowT pv2 ev.length cp2 ev] := HP.call hH23 hb82
              refine WL.pure (v := .tuple #[.bool true, vI 0]) 90 rfl (Nat.le_of_ble_eq_true rfl) rfl rfl (by kernel_rfl) ?_
              refine WL.pure (v := .bool true) 95 rfl (Nat.le_of_ble_eq_true rfl) rfl rfl (by kernel_rfl) ?_
              refine WL.pure (v := vI 0) 96 rfl (Nat.le_of_ble_eq_true rfl) rfl rfl (by kernel_rfl) ?_
              refine WL.pure (v := .bool true) 18 rfl (Nat.le_of_ble_eq_true rfl) rfl rfl (by kernel_rfl) ?_
              refine WL.pure (v := vI 0) 19 rfl (Nat.le_of_ble_eq_true rfl) rfl rfl (by kernel_rfl) ?_
              refine WL.nil ?_
              refine WQ.then ?_
              refine hK80 _ _ _ ?_
              refine WC.sub (l' := [(0, .slice p N cap), (1, vI m), (2, vI tk), (3, .slice pg gs.length cg), (4, .slice po ot.length co), (11, vI d), (14, .slice pv1 qs.length cp1), (15, .slice pv2 ev.length cp2), (16, vI t), (17, vI (i : Int)), (18, .bool true), (19, vI 0), (63, .bool false)]) ⟨rfl, rfl, rfl, rfl, rfl, rfl, rfl, rfl, rfl, rfl, rfl, rfl, rfl, trivial⟩ ?_
              refine WC.seq fun K84 hK84 => ?_
              refine WC.seq fun K85 hK85 => ?_
              refine WC.region ?_
              refine WL.pure (v := .bool true) 97 rfl (Nat.le_of_ble_eq_true rfl) rfl rfl (by kernel_rfl) ?_
              refine WL.pure (v := .bool false) 98 rfl (Nat.le_of_ble_eq_true rfl) rfl rfl (by kernel_rfl) ?_
              refine WL.pure (v := .bool false) 99 rfl (Nat.le_of_ble_eq_true rfl) rfl rfl (by kernel_rfl) ?_
              refine WL.pure (v := vI 0) 100 rfl (Nat.le_of_ble_eq_true rfl) rfl rfl (by kernel_rfl) ?_
              refine WL.pure (v := .bool false) 101 rfl (Nat.le_of_ble_eq_true rfl) rfl rfl (x_neq rfl rfl rfl (by decide)) ?_
              refine WL.pure (v := .bool false) 102 rfl (Nat.le_of_ble_eq_true rfl) rfl rfl (by kernel_rfl) ?_
              refine WL.nil ?_
              refine WQ.then ?_
              refine hK85 _ _ _ ?_
              refine WC.no rfl ?_
              refine WC.skip ?_
              refine WQ.then ?_
              refine hK84 _ _ _ ?_
              refine WC.seq fun K86 hK86 => ?_
              refine WC.region ?_
              refine WL.pure (v := .slice pv1 qs.length cp1) 103 rfl (Nat.le_of_ble_eq_true rfl) rfl rfl (by kernel_rfl) ?_
              refine WL.pure (v := vI (qs.length : Int)) 104 rfl (Nat.le_of_ble_eq_true rfl) rfl rfl (by kernel_rfl) ?_
              refine WL.pure (v := vI (qs.length : Int)) 20 rfl (Nat.le_of_ble_eq_true rfl) rfl rfl (by kernel_rfl) ?_
              refine WL.nil ?_
              refine WQ.then ?_
              refine hK86 _ _ _ ?_
              refine WC.sub (l' := [(0, .slice p N cap), (1, vI m), (2, vI tk), (3, .slice pg gs.length cg), (4, .slice po ot.length co), (11, vI d), (14, .slice pv1 qs.length cp1), (15, .slice pv2 ev.length cp2), (16, vI t), (17, vI (i : Int)), (18, .bool true), (19, vI 0), (20, vI (qs.length : Int)), (63, .bool false), (102, .bool false)]) ⟨rfl, rfl, rfl, rfl, rfl, rfl, rfl, rfl, rfl, rfl, rfl, rfl, rfl, rfl, rfl, trivial⟩ ?_
              refine WC.seq fun K87 hK87 => ?_
              refine WC.seq fun K88 hK88 => ?_
              refine WC.region ?_
              refine WL.pure (v := vI 0) 21 rfl (Nat.le_of_ble_eq_true rfl) rfl rfl (by kernel_rfl) ?_
              refine WL.nil ?_
              refine WQ.then ?_
              refine hK88 _ _ _ ?_
              refine WC.block ?_
              refine WC.loop (fun kk0 ll0 ww0 => ∃ (k : Nat) (q2 : List Rq) (pv3 : Option Addr) (cp3 : Nat), ll0 = [(0, .slice p N cap), (1, vI m), (4, .slice po ot.length co), (11, vI d), (14, .slice pv3 q2.length cp3), (20, vI (qs.length : Int)), (21, vI (k : Int))] ∧ kk0 = ot.length - k ∧ (k ≤ ot.length) ∧ (Oth (owl o sp N) m qs q2 k) ∧ HP Tr w ww0 [rowQ pv3 q2.length cp3 q2]) (ot.length) [(0, .slice p N cap), (1, vI m), (4, .slice po ot.length co), (11, vI d), (14, .slice pv1 qs.length cp1), (20, vI (qs.length : Int)), (21, vI 0)] ⟨rfl, rfl, rfl, rfl, rfl, rfl, rfl, trivial⟩ ⟨0, qs, pv1, cp1, rfl, rfl, Nat.zero_le _, Oth.nil _ _ _, (HP.drop hH83 1)⟩ ?_
              rintro kk l w90 ⟨k, q2, pv3, cp3, rfl, hkk, hk, hOth, hH91⟩ K89 hK89
              refine WC.seq fun K92 hK92 => ?_
              refine WC.seq fun K93 hK93 => ?_
              refine WC.region ?_
              refine WL.pure (v := vI (k : Int)) 105 rfl (Nat.le_of_ble_eq_true rfl) rfl rfl (by kernel_rfl) ?_
              refine WL.pure (v := .slice po ot.length co) 106 rfl (Nat.le_of_ble_eq_true rfl) rfl rfl (by kernel_rfl) ?_
              refine WL.pure (v := vI (ot.length : Int)) 107 rfl (Nat.le_of_ble_eq_true rfl) rfl rfl (by kernel_rfl) ?_
              by_cases hlt2 : (k : Int) < (ot.length : Int)
              ·
                refine WL.pure (v := .bool true) 108 rfl (Nat.le_of_ble_eq_true rfl) rfl rfl (x_lss rfl rfl rfl (dT (hlt2))) ?_
                refine WL.nil ?_
                refine WQ.then ?_
                refine hK93 _ _ _ ?_
                refine WC.yes rfl ?_
                refine WC.skip ?_
                refine WQ.then ?_
                refine hK92 _ _ _ ?_
                refine WC.seq fun K94 hK94 => ?_
                refine WC.block ?_
                refine WC.seq fun K95 hK95 => ?_
                obtain ⟨go, oo, rfl, hrowo⟩ := hO (by omega)
                refine WC.region ?_
                refine WL.pure (v := .slice p N cap) 112 rfl (Nat.le_of_ble_eq_true rfl) rfl rfl (by kernel_rfl) ?_
                refine WL.pure (v := .slice (some ⟨go, oo, none⟩) ot.length co) 113 rfl (Nat.le_of_ble_eq_true rfl) rfl rfl (by kernel_rfl) ?_
                refine WL.pure (v := vI (k : Int)) 114 rfl (Nat.le_of_ble_eq_true rfl) rfl rfl (by kernel_rfl) ?_
                refine WL.pure (v := vP go (oo + k * 3)) 115 rfl (Nat.le_of_ble_eq_true rfl) rfl rfl (x_idx (k) (oo + k * 3) rfl rfl rfl Try.underlying24 sz30 (by omega) (by omega) (by omega)) ?_
                refine WL.pure (v := .agg #[vI (qM ot k), vI (qT ot k), vI (qN ot k)]) 116 rfl (Nat.le_of_ble_eq_true rfl) rfl rfl (x_loadS (cs := [vI (qM ot k), vI (qT ot k), vI (qN ot k)]) rfl rfl Try.underlying30 rfl sz30 (HP.oldRange hH91 trivial (hrowo k (by omega)))) ?_
                refine WL.call (f := 6) (args := #[.slice p N cap, .agg #[vI (qM ot k), vI (qT ot k), vI (qN ot k)]]) 117 rfl (Nat.le_of_ble_eq_true rfl) rfl rfl (by kernel_rfl) ?_
                refine (rEnd_any p N cap o sp (qM ot k) (qT ot k) (qN ot k) _ (hS.below (HP.below hH91)) hokl).mono ?_
                rintro e w96 ⟨d2, er2, rfl, hE2, hb97⟩
                refine ⟨_, rfl, ?_⟩
                have hH98 : HP Tr w _ [rowQ pv3 q2.length cp3 q2] := HP.call hH91 hb97
                refine WL.pure (v := .tuple #[vI d2, vI er2]) 111 rfl (Nat.le_of_ble_eq_true rfl) rfl rfl (by kernel_rfl) ?_
                refine WL.pure (v := vI d2) 118 rfl (Nat.le_of_ble_eq_true rfl) rfl rfl (by kernel_rfl) ?_
                refine WL.pure (v := vI er2) 119 rfl (Nat.le_of_ble_eq_true rfl) rfl rfl (by kernel_rfl) ?_
                refine WL.pure (v := vI d2) 22 rfl (Nat.le_of_ble_eq_true rfl) rfl rfl (by kernel_rfl) ?_
                refine WL.pure (v := vI er2) 23 rfl (Nat.le_of_ble_eq_true rfl) rfl rfl (by kernel_rfl) ?_
                refine WL.nil ?_
                refine WQ.then ?_
                refine hK95 _ _ _ ?_
                refine WC.sub (l' := [(0, .slice p N cap), (1, vI m), (4, .slice (some ⟨go, oo, none⟩) ot.length co), (11, vI d), (14, .slice pv3 q2.length cp3), (20, vI (qs.length : Int)), (21, vI (k : Int)), (23, vI er2), (108, .bool true)]) ⟨rfl, rfl, rfl, rfl, rfl, rfl, rfl, rfl, rfl, trivial⟩ ?_
                refine WC.seq fun K99 hK99 => ?_
                refine WC.region ?_
                refine WL.pure (v := .slice (some ⟨go, oo, none⟩) ot.length co) 120 rfl (Nat.le_of_ble_eq_true rfl) rfl rfl (by kernel_rfl) ?_
                refine WL.pure (v := vI (k : Int)) 121 rfl (Nat.le_of_ble_eq_true rfl) rfl rfl (by kernel_rfl) ?_
                refine WL.pure (v := vP go (oo + k * 3)) 122 rfl (Nat.le_of_ble_eq_true rfl) rfl rfl (x_idx (k) (oo + k * 3) rfl rfl rfl Try.underlying24 sz30 (by omega) (by omega) (by omega)) ?_
                refine WL.pure (v := vP go (oo + k * 3)) 123 rfl (Nat.le_of_ble_eq_true rfl) rfl rfl (by kernel_rfl) ?_
                refine WL.pure (v := vI (qM ot k)) 124 rfl (Nat.le_of_ble_eq_true rfl) rfl rfl (x_load rfl rfl Try.underlying3 rfl ((HP.oldRange hH98 trivial (hrowo k (by omega))) 0 _ rfl)) ?_
                refine WL.pure (v := vI m) 125 rfl (Nat.le_of_ble_eq_true rfl) rfl rfl (by kernel_rfl) ?_
                by_cases hne : qM ot k ≠ m
                ·
                  refine WL.pure (v := .bool true) 126 rfl (Nat.le_of_ble_eq_true rfl) rfl rfl (x_neq rfl rfl rfl (dT (hne))) ?_
                  refine WL.pure (v := .bool true) 127 rfl (Nat.le_of_ble_eq_true rfl) rfl rfl (by kernel_rfl) ?_
                  refine WL.pure (v := vI er2) 128 rfl (Nat.le_of_ble_eq_true rfl) rfl rfl (by kernel_rfl) ?_
                  by_cases he2 : er2 = 0
                  ·
                    refine WL.pure (v := .bool true) 129 rfl (Nat.le_of_ble_eq_true rfl) rfl rfl (x_eql rfl rfl rfl (dT (he2))) ?_
                    refine WL.pure (v := .bool true) 130 rfl (Nat.le_of_ble_eq_true rfl) rfl rfl (by kernel_rfl) ?_
                    refine WL.nil ?_
                    refine WQ.then ?_
                    refine hK99 _ _ _ ?_
                    refine WC.sub (l' := [(0, .slice p N cap), (1, vI m), (4, .slice (some ⟨go, oo, none⟩) ot.length co), (11, vI d), (14, .slice pv3 q2.length cp3), (20, vI (qs.length : Int)), (21, vI (k : Int)), (23, vI er2), (108, .bool true), (130, .bool true)]) ⟨rfl, rfl, rfl, rfl, rfl, rfl, rfl, rfl, rfl, rfl, trivial⟩ ?_
                    refine WC.yes rfl ?_
                    have hq2l := hOth.len
                    refine WC.region ?_
                    refine WL.pure (v := .slice pv3 q2.length cp3) 131 rfl (Nat.le_of_ble_eq_true rfl) rfl rfl (by kernel_rfl) ?_
                    refine WL.pure (v := .slice (some ⟨go, oo, none⟩) ot.length co) 132 rfl (Nat.le_of_ble_eq_true rfl) rfl rfl (by kernel_rfl) ?_
                    refine WL.pure (v := vI (k : Int)) 133 rfl (Nat.le_of_ble_eq_true rfl) rfl rfl (by kernel_rfl) ?_
                    refine WL.pure (v := vP go (oo + k * 3)) 134 rfl (Nat.le_of_ble_eq_true rfl) rfl rfl (x_idx (k) (oo + k * 3) rfl rfl rfl Try.underlying24 sz30 (by omega) (by omega) (by omega)) ?_
                    refine WL.pure (v := .agg #[vI (qM ot k), vI (qT ot k), vI (qN ot k)]) 135 rfl (Nat.le_of_ble_eq_true rfl) rfl rfl (x_loadS (cs := [vI (qM ot k), vI (qT ot k), vI (qN ot k)]) rfl rfl Try.underlying30 rfl sz30 (HP.oldRange hH98 trivial (hrowo k (by omega)))) ?_
                    refine WL.alloc (c := #[vI (qM ot k), vI (qT ot k), vI (qN ot k)]) (T := 30) hH98 136 rfl (by decide) rfl rfl (fun b100 => vS b100 1 1) (by kernel_rfl) (fun b100 w101 hw101 => ?_)
                    have hH102 : HP Tr w w101 [rowQ pv3 q2.length cp3 q2, .cel b100 #[vI (qM ot k), vI (qT ot k), vI (qN ot k)] 30] := hw101.2
                    have nb100 := hw101.1
                    clear hw101
                    obtain ⟨i0, hi0, hz0, hz1, hz2⟩ := infoQ
                    refine WL.append (news := [vI (qM ot k), vI (qT ot k), vI (qN ot k)]) 0 1 hH102 137 rfl (by decide) rfl rfl rfl rfl Try.underlying24 hi0 hz0 hz1 hz2 rfl (by decide) rfl rfl rfl rfl (by simp [Value.oneCell']) (by unfold maxLen; omega) (by omega) ?_
                    rintro v5 wn5 - hA5
                    obtain ⟨pv5, cp5, rfl⟩ := own_row (HP.get hA5 0 rfl)
                    have e5 : q2.length + 1 = (q2 ++ [(⟨qM ot k, qT ot k, qN ot k⟩ : Rq)]).length := by simp
                    rw [qL_push, e5] at hA5
                    rw [e5]
                    have hH103 : HP Tr w _ [rowQ pv5 (q2 ++ [(⟨qM ot k, qT ot k, qN ot k⟩ : Rq)]).length cp5 (q2 ++ [(⟨qM ot k, qT ot k, qN ot k⟩ : Rq)]), .cel b100 #[vI (qM ot k), vI (qT ot k), vI (qN ot k)] 30] := hA5
                    refine WL.pure (v := .slice pv5 ((q2 ++ [(⟨qM ot k, qT ot k, qN ot k⟩ : Rq)]).length) cp5) 14 rfl (Nat.le_of_ble_eq_true rfl) rfl rfl (by kernel_rfl) ?_
                    refine WL.nil ?_
                    refine WQ.inNormal ?_
                    refine WQ.then ?_
                    refine hK94 _ _ _ ?_
                    refine WC.sub (l' := [(0, .slice p N cap), (1, vI m), (4, .slice (some ⟨go, oo, none⟩) ot.length co), (11, vI d), (14, .slice pv5 ((q2 ++ [(⟨qM ot k, qT ot k, qN ot k⟩ : Rq)]).length) cp5), (20, vI (qs.length : Int)), (21, vI (k : Int)), (23, vI er2), (108, .bool true), (130, .bool true)]) ⟨rfl, rfl, rfl, rfl, rfl, rfl, rfl, rfl, rfl, rfl, trivial⟩ ?_
                    refine WC.region ?_
                    refine WL.pure (v := vI (k : Int)) 109 rfl (Nat.le_of_ble_eq_true rfl) rfl rfl (by kernel_rfl) ?_
                    refine WL.pure (v := vI ((k + 1 : Nat) : Int)) 110 rfl (Nat.le_of_ble_eq_true rfl) rfl rfl (x_add (Z := ((k + 1 : Nat) : Int)) rfl rfl rfl (by omega) (by omega) (by omega)) ?_
                    refine WL.pure (v := vI ((k + 1 : Nat) : Int)) 21 rfl (Nat.le_of_ble_eq_true rfl) rfl rfl (by kernel_rfl) ?_
                    refine WL.nil ?_
                    refine WQ.sub (l' := [(0, .slice p N cap), (1, vI m), (4, .slice (some ⟨go, oo, none⟩) ot.length co), (11, vI d), (14, .slice pv5 ((q2 ++ [(⟨qM ot k, qT ot k, qN ot k⟩ : Rq)]).length) cp5), (20, vI (qs.length : Int)), (21, vI ((k + 1 : Nat) : Int))]) ⟨rfl, rfl, rfl, rfl, rfl, rfl, rfl, trivial⟩ ?_
                    refine WQ.then (hK89 _ _ _ (by omega) ⟨k + 1, (q2 ++ [(⟨qM ot k, qT ot k, qN ot k⟩ : Rq)]), pv5, cp5, rfl, rfl, by omega, hOth.push (hE2 he2) hne, (HP.drop hH103 1)⟩)
                  ·
                    refine WL.pure (v := .bool false) 129 rfl (Nat.le_of_ble_eq_true rfl) rfl rfl (x_eql rfl rfl rfl (dF (he2))) ?_
                    refine WL.pure (v := .bool false) 130 rfl (Nat.le_of_ble_eq_true rfl) rfl rfl (by kernel_rfl) ?_
                    refine WL.nil ?_
                    refine WQ.then ?_
                    refine hK99 _ _ _ ?_
                    refine WC.sub (l' := [(0, .slice p N cap), (1, vI m), (4, .slice (some ⟨go, oo, none⟩) ot.length co), (11, vI d), (14, .slice pv3 q2.length cp3), (20, vI (qs.length : Int)), (21, vI (k : Int)), (23, vI er2), (108, .bool true), (130, .bool false)]) ⟨rfl, rfl, rfl, rfl, rfl, rfl, rfl, rfl, rfl, rfl, trivial⟩ ?_
                    refine WC.no rfl ?_
                    refine WC.skip ?_
                    refine WQ.inNormal ?_
                    refine WQ.then ?_
                    refine hK94 _ _ _ ?_
                    refine WC.region ?_
                    refine WL.pure (v := vI (k : Int)) 109 rfl (Nat.le_of_ble_eq_true rfl) rfl rfl (by kernel_rfl) ?_
                    refine WL.pure (v := vI ((k + 1 : Nat) : Int)) 110 rfl (Nat.le_of_ble_eq_true rfl) rfl rfl (x_add (Z := ((k + 1 : Nat) : Int)) rfl rfl rfl (by omega) (by omega) (by omega)) ?_
                    refine WL.pure (v := vI ((k + 1 : Nat) : Int)) 21 rfl (Nat.le_of_ble_eq_true rfl) rfl rfl (by kernel_rfl) ?_
                    refine WL.nil ?_
                    refine WQ.sub (l' := [(0, .slice p N cap), (1, vI m), (4, .slice (some ⟨go, oo, none⟩) ot.length co), (11, vI d), (14, .slice pv3 q2.length cp3), (20, vI (qs.length : Int)), (21, vI ((k + 1 : Nat) : Int))]) ⟨rfl, rfl, rfl, rfl, rfl, rfl, rfl, trivial⟩ ?_
                    refine WQ.then (hK89 _ _ _ (by omega) ⟨k + 1, q2, pv3, cp3, rfl, rfl, by omega, hOth.skip, hH98⟩)
                ·
                  refine WL.pure (v := .bool false) 126 rfl (Nat.le_of_ble_eq_true rfl) rfl rfl (x_neq rfl rfl rfl (dF (hne))) ?_
                  refine WL.pure (v := .bool false) 127 rfl (Nat.le_of_ble_eq_true rfl) rfl rfl (by kernel_rfl) ?_
                  refine WL.pass 128 rfl (Nat.le_of_ble_eq_true rfl) rfl ?_
                  refine WL.pass 129 rfl (Nat.le_of_ble_eq_true rfl) rfl ?_
                  refine WL.pure (v := .bool false) 130 rfl (Nat.le_of_ble_eq_true rfl) rfl rfl (by kernel_rfl) ?_
                  refine WL.nil ?_
                  refine WQ.then ?_
                  refine hK99 _ _ _ ?_
                  refine WC.sub (l' := [(0, .slice p N cap), (1, vI m), (4, .slice (some ⟨go, oo, none⟩) ot.length co), (11, vI d), (14, .slice pv3 q2.length cp3), (20, vI (qs.length : Int)), (21, vI (k : Int)), (23, vI er2), (108, .bool true), (130, .bool false)]) ⟨rfl, rfl, rfl, rfl, rfl, rfl, rfl, rfl, rfl, rfl, trivial⟩ ?_
                  refine WC.no rfl ?_
                  refine WC.skip ?_
                  refine WQ.inNormal ?_
                  refine WQ.then ?_
                  refine hK94 _ _ _ ?_
                  refine WC.region ?_
                  refine WL.pure (v := vI (k : Int)) 109 rfl (Nat.le_of_ble_eq_true rfl) rfl rfl (by kernel_rfl) ?_
                  refine WL.pure (v := vI ((k + 1 : Nat) : Int)) 110 rfl (Nat.le_of_ble_eq_true rfl) rfl rfl (x_add (Z := ((k + 1 : Nat) : Int)) rfl rfl rfl (by omega) (by omega) (by omega)) ?_
                  refine WL.pure (v := vI ((k + 1 : Nat) : Int)) 21 rfl (Nat.le_of_ble_eq_true rfl) rfl rfl (by kernel_rfl) ?_
                  refine WL.nil ?_
                  refine WQ.sub (l' := [(0, .slice p N cap), (1, vI m), (4, .slice (some ⟨go, oo, none⟩) ot.length co), (11, vI d), (14, .slice pv3 q2.length cp3), (20, vI (qs.length : Int)), (21, vI ((k + 1 : Nat) : Int))]) ⟨rfl, rfl, rfl, rfl, rfl, rfl, rfl, trivial⟩ ?_
                  refine WQ.then (hK89 _ _ _ (by omega) ⟨k + 1, q2, pv3, cp3, rfl, rfl, by omega, hOth.skip, hH98⟩)
              ·
                refine WL.pure (v := .bool false) 108 rfl (Nat.le_of_ble_eq_true rfl) rfl rfl (x_lss rfl rfl rfl (dF (hlt2))) ?_
                refine WL.nil ?_
                refine WQ.then ?_
                refine hK93 _ _ _ ?_
                refine WC.no rfl ?_
                refine WC.exit ?_
                refine WQ.thenExit ?_
                refine WQ.thenExit ?_
                refine WQ.inExit ?_
                refine WQ.then ?_
                refine hK87 _ _ _ ?_
                refine WC.seq fun K104 hK104 => ?_
                refine WC.region ?_
                refine WL.pure (v := .slice p N cap) 139 rfl (Nat.le_of_ble_eq_true rfl) rfl rfl (by kernel_rfl) ?_
                refine WL.pure (v := .slice pv3 q2.length cp3) 140 rfl (Nat.le_of_ble_eq_true rfl) rfl rfl (by kernel_rfl) ?_
                have hq2l := hOth.len
                have hql2 := hGn.len
                refine WL.call (f := 7) (args := #[.slice p N cap, .slice pv3 q2.length cp3]) 141 rfl (Nat.le_of_ble_eq_true rfl) rfl rfl (by kernel_rfl) ?_
                refine (Serve_any p N cap o sp pv3 cp3 q2 m tk d qs.length _ (hS.below (HP.below hH91)) (InQ.own (HP.get hH91 0 rfl)) hW.okl (req_ok hW hGn hOth) (by omega) (own_ok hW hGn hOth (by omega))).mono ?_
                rintro e wt ⟨g4, g5, B, E, rfl, hfin, hb4⟩
                refine ⟨_, rfl, ?_⟩
                have hHt := HP.trans hH91 hb4
                have hQt : InQ wt pv3 q2 := InQ.own (HP.get hHt 0 rfl)
                have hEr : ∀ i, i < q2.length → World.rangeAt wt g5 i [vI (E i)] := fun i hi => range1 (HP.cell hHt 2 rfl (irow_get hi rfl))
                have hH105 : HP Tr wt wt [] := HP.refl wt
                refine WL.pure (v := .tuple #[vS g5 q2.length q2.length, vI 0]) 138 rfl (Nat.le_of_ble_eq_true rfl) rfl rfl (by kernel_rfl) ?_
                refine WL.pure (v := vS g5 q2.length q2.length) 142 rfl (Nat.le_of_ble_eq_true rfl) rfl rfl (by kernel_rfl) ?_
                refine WL.pure (v := vI 0) 143 rfl (Nat.le_of_ble_eq_true rfl) rfl rfl (by kernel_rfl) ?_
                refine WL.pure (v := vS g5 q2.length q2.length) 24 rfl (Nat.le_of_ble_eq_true rfl) rfl rfl (by kernel_rfl) ?_
                refine WL.pure (v := vI 0) 25 rfl (Nat.le_of_ble_eq_true rfl) rfl rfl (by kernel_rfl) ?_
                refine WL.nil ?_
                refine WQ.then ?_
                refine hK104 _ _ _ ?_
                refine WC.sub (l' := [(0, .slice p N cap), (1, vI m), (4, .slice po ot.length co), (11, vI d), (14, .slice pv3 q2.length cp3), (20, vI (qs.length : Int)), (21, vI (k : Int)), (24, vS g5 q2.length q2.length), (25, vI 0), (108, .bool false)]) ⟨rfl, rfl, rfl, rfl, rfl, rfl, rfl, rfl, rfl, rfl, trivial⟩ ?_
                refine WC.seq fun K106 hK106 => ?_
                refine WC.seq fun K107 hK107 => ?_
                refine WC.region ?_
                refine WL.pure (v := vI 0) 144 rfl (Nat.le_of_ble_eq_true rfl) rfl rfl (by kernel_rfl) ?_
                refine WL.pure (v := .bool false) 145 rfl (Nat.le_of_ble_eq_true rfl) rfl rfl (x_neq rfl rfl rfl (by decide)) ?_
                refine WL.pure (v := .bool false) 146 rfl (Nat.le_of_ble_eq_true rfl) rfl rfl (by kernel_rfl) ?_
                refine WL.pure (v := vS g5 q2.length q2.length) 147 rfl (Nat.le_of_ble_eq_true rfl) rfl rfl (by kernel_rfl) ?_
                refine WL.pure (v := vI (q2.length : Int)) 148 rfl (Nat.le_of_ble_eq_true rfl) rfl rfl (by kernel_rfl) ?_
                refine WL.pure (v := .slice pv3 q2.length cp3) 149 rfl (Nat.le_of_ble_eq_true rfl) rfl rfl (by kernel_rfl) ?_
                refine WL.pure (v := vI (q2.length : Int)) 150 rfl (Nat.le_of_ble_eq_true rfl) rfl rfl (by kernel_rfl) ?_
                refine WL.pure (v := .bool false) 151 rfl (Nat.le_of_ble_eq_true rfl) rfl rfl (x_neq rfl rfl rfl (dF (fun h => h rfl))) ?_
                refine WL.pure (v := .bool false) 152 rfl (Nat.le_of_ble_eq_true rfl) rfl rfl (by kernel_rfl) ?_
                refine WL.nil ?_
                refine WQ.then ?_
                refine hK107 _ _ _ ?_
                refine WC.sub (l' := [(0, .slice p N cap), (1, vI m), (4, .slice po ot.length co), (11, vI d), (14, .slice pv3 q2.length cp3), (20, vI (qs.length : Int)), (21, vI (k : Int)), (24, vS g5 q2.length q2.length), (25, vI 0), (108, .bool false), (152, .bool false)]) ⟨rfl, rfl, rfl, rfl, rfl, rfl, rfl, rfl, rfl, rfl, rfl, trivial⟩ ?_
                refine WC.no rfl ?_
                refine WC.skip ?_
                refine WQ.then ?_
                refine hK106 _ _ _ ?_
                refine WC.seq fun K108 hK108 => ?_
                refine WC.seq fun K109 hK109 => ?_
                refine WC.region ?_
                refine WL.pure (v := vI 0) 26 rfl (Nat.le_of_ble_eq_true rfl) rfl rfl (by kernel_rfl) ?_
                refine WL.nil ?_
                refine WQ.then ?_
                refine hK109 _ _ _ ?_
                refine WC.block ?_
                refine WC.loop (fun kk0 ll0 ww0 => ∃ (j : Nat), ll0 = [(11, vI d), (14, .slice pv3 q2.length cp3), (20, vI (qs.length : Int)), (24, vS g5 q2.length q2.length), (26, vI (j : Int))] ∧ kk0 = qs.length - j ∧ (j ≤ qs.length) ∧ HP Tr wt ww0 []) (qs.length) [(11, vI d), (14, .slice pv3 q2.length cp3), (20, vI (qs.length : Int)), (24, vS g5 q2.length q2.length), (26, vI 0)] ⟨rfl, rfl, rfl, rfl, rfl, trivial⟩ ⟨0, rfl, rfl, Nat.zero_le _, hH105⟩ ?_
                rintro kk l w111 ⟨j, rfl, hkk, hj, hH112⟩ K110 hK110
                refine WC.seq fun K113 hK113 => ?_
                refine WC.seq fun K114 hK114 => ?_
                refine WC.region ?_
                refine WL.pure (v := vI (j : Int)) 153 rfl (Nat.le_of_ble_eq_true rfl) rfl rfl (by kernel_rfl) ?_
                refine WL.pure (v := vI (qs.length : Int)) 154 rfl (Nat.le_of_ble_eq_true rfl) rfl rfl (by kernel_rfl) ?_
                by_cases hlt3 : (j : Int) < (qs.length : Int)
                ·
                  refine WL.pure (v := .bool true) 155 rfl (Nat.le_of_ble_eq_true rfl) rfl rfl (x_lss rfl rfl rfl (dT (hlt3))) ?_
                  refine WL.nil ?_
                  refine WQ.then ?_
                  refine hK114 _ _ _ ?_
                  refine WC.yes rfl ?_
                  refine WC.skip ?_
                  refine WQ.then ?_
                  refine hK113 _ _ _ ?_
                  refine WC.seq fun K115 hK115 => ?_
                  refine WC.block ?_
                  refine WC.seq fun K116 hK116 => ?_
                  obtain ⟨gz, oz, rfl, hrowz⟩ := hQt (by omega)
                  have hfi := hfin j (by omega)
                  have hrq := (okR_iff.1 (req_ok hW hGn hOth j (by omega)).1).2.1
                  refine WC.confG (γ := Unit) [(155, .bool true), (154, vI (qs.length : Int)), (153, vI (j : Int)), (11, vI d), (14, .slice (some ⟨gz, oz, none⟩) q2.length cp3), (20, vI (qs.length : Int)), (24, vS g5 q2.length q2.length), (26, vI (j : Int))] (fun gy => [vS g5 q2.length q2.length, vI (j : Int), vP g5 j, vI (E j), .slice (some ⟨gz, oz, none⟩) q2.length cp3, vI (j : Int), vP gz (oz + j * 3), vP gz (oz + j * 3 + 1), vI (qT q2 j), vI ((E j) - (qT q2 j)), vI d, .bool false]) (fun gy D wz => HP Tr wt wz []) () (by kernel_rfl) ⟨rfl, rfl, rfl, rfl, rfl, rfl, rfl, rfl, trivial⟩ (by kernel_rfl) (by kernel_rfl) (by kernel_rfl) (fun _ => rfl) (by kernel_rfl) (HP.drew hH112) ?_ ?_
                  · refine AllOk.cons ?o0 (AllOk.cons ?o1 (AllOk.cons ?o2 (AllOk.cons ?o3 (AllOk.cons ?o4 (AllOk.cons ?o5 (AllOk.cons ?o6 (AllOk.cons ?o7 (AllOk.cons ?o8 (AllOk.cons ?o9 (AllOk.cons ?o10 (AllOk.cons ?o11 (AllOk.nil _))))))))))))
                    case o0 =>
                      intro gy D wz hDi hdep hclo hW
                      exact .inl ⟨rfl, rfl, .inl ⟨gy, wz, fun _ _ => rfl, by kernel_rfl, hW⟩⟩
                    case o1 =>
                      intro gy D wz hDi hdep hclo hW
                      exact .inl ⟨rfl, rfl, .inl ⟨gy, wz, fun _ _ => rfl, by kernel_rfl, hW⟩⟩
                    case o2 =>
                      intro gy D wz hDi hdep hclo hW
                      exact .inl ⟨rfl, rfl, .inl ⟨gy, wz, fun _ _ => rfl, x_idx (j) (j) rfl rfl rfl Try.underlying23 sz3 (by omega) (by omega) (by omega), hW⟩⟩
                    case o3 =>
                      intro gy D wz hDi hdep hclo hW
                      exact .inl ⟨rfl, rfl, .inl ⟨gy, wz, fun _ _ => rfl, x_load rfl rfl Try.underlying3 rfl ((HP.oldRange hW trivial (hEr j (by omega))) 0 _ rfl), hW⟩⟩
                    case o4 =>
                      intro gy D wz hDi hdep hclo hW
                      exact .inl ⟨rfl, rfl, .inl ⟨gy, wz, fun _ _ => rfl, by kernel_rfl, hW⟩⟩
                    case o5 =>
                      intro gy D wz hDi hdep hclo hW
                      exact .inl ⟨rfl, rfl, .inl ⟨gy, wz, fun _ _ => rfl, by kernel_rfl, hW⟩⟩
                    case o6 =>
                      intro gy D wz hDi hdep hclo hW
                      exact .inl ⟨rfl, rfl, .inl ⟨gy, wz, fun _ _ => rfl, x_idx (j) (oz + j * 3) rfl rfl rfl Try.underlying24 sz30 (by omega) (by omega) (by omega), hW⟩⟩
                    case o7 =>
                      intro gy D wz hDi hdep hclo hW
                      exact .inl ⟨rfl, rfl, .inl ⟨gy, wz, fun _ _ => rfl, by kernel_rfl, hW⟩⟩
                    case o8 =>
                      intro gy D wz hDi hdep hclo hW
                      exact .inl ⟨rfl, rfl, .inl ⟨gy, wz, fun _ _ => rfl, x_load rfl rfl Try.underlying3 rfl ((HP.oldRange hW trivial (hrowz j (by omega))) 1 _ rfl), hW⟩⟩
                    case o9 =>
                      intro gy D wz hDi hdep hclo hW
                      exact .inl ⟨rfl, rfl, .inl ⟨gy, wz, fun _ _ => rfl, x_sub (Z := (E j) - (qT q2 j)) rfl rfl rfl (by omega) (by omega) (by omega), hW⟩⟩
                    case o10 =>
                      intro gy D wz hDi hdep hclo hW
                      exact .inl ⟨rfl, rfl, .inl ⟨gy, wz, fun _ _ => rfl, by kernel_rfl, hW⟩⟩
                    case o11 =>
                      intro gy D wz hDi hdep hclo hW
                      exact .inl ⟨rfl, rfl, .inl ⟨gy, wz, fun _ _ => rfl, x_gtr rfl rfl rfl (dF (by omega)), hW⟩⟩
                  rintro gy D w117 hall hH118
                  clear hall
                  refine WQ.sub (l' := [(11, vI d), (14, .slice (some ⟨gz, oz, none⟩) q2.length cp3), (20, vI (qs.length : Int)), (24, vS g5 q2.length q2.length), (26, vI (j : Int)), (155, .bool true), (169, .bool false)]) ⟨rfl, rfl, rfl, rfl, rfl, rfl, rfl, trivial⟩ ?_
                  refine WQ.then ?_
                  refine hK116 _ _ _ ?_
                  refine WC.no rfl ?_
                  refine WC.skip ?_
                  refine WQ.inNormal ?_
                  refine WQ.then ?_
                  refine hK115 _ _ _ ?_
                  refine WC.region ?_
                  refine WL.pure (v := vI (j : Int)) 156 rfl (Nat.le_of_ble_eq_true rfl) rfl rfl (by kernel_rfl) ?_
                  refine WL.pure (v := vI ((j + 1 : Nat) : Int)) 157 rfl (Nat.le_of_ble_eq_true rfl) rfl rfl (x_add (Z := ((j + 1 : Nat) : Int)) rfl rfl rfl (by omega) (by omega) (by omega)) ?_
                  refine WL.pure (v := vI ((j + 1 : Nat) : Int)) 26 rfl (Nat.le_of_ble_eq_true rfl) rfl rfl (by kernel_rfl) ?_
                  refine WL.nil ?_
                  refine WQ.sub (l' := [(11, vI d), (14, .slice (some ⟨gz, oz, none⟩) q2.length cp3), (20, vI (qs.length : Int)), (24, vS g5 q2.length q2.length), (26, vI ((j + 1 : Nat) : Int))]) ⟨rfl, rfl, rfl, rfl, rfl, trivial⟩ ?_
                  refine WQ.then (hK110 _ _ _ (by omega) ⟨j + 1, rfl, rfl, by omega, hH118⟩)
                ·
                  refine WL.pure (v := .bool false) 155 rfl (Nat.le_of_ble_eq_true rfl) rfl rfl (x_lss rfl rfl rfl (dF (hlt3))) ?_
                  refine WL.nil ?_
                  refine WQ.then ?_
                  refine hK114 _ _ _ ?_
                  refine WC.no rfl ?_
                  refine WC.exit ?_
                  refine WQ.thenExit ?_
                  refine WQ.thenExit ?_
                  refine WQ.inExit ?_
                  refine WQ.then ?_
                  refine hK108 _ _ _ ?_
                  refine WC.seq fun K119 hK119 => ?_
                  refine WC.region ?_
                  refine WL.pure (v := .bool true) 10 rfl (Nat.le_of_ble_eq_true rfl) rfl rfl (by kernel_rfl) ?_
                  refine WL.nil ?_
                  refine WQ.then ?_
                  refine hK119 _ _ _ ?_
                  refine WC.ret ?_
                  refine WQ.ret1 10 rfl rfl ?_
                  exact ⟨rfl, HP.below (HP.call hHt (HP.below hH112))⟩

theorem own : ownKnob Try.prog.godebug = none := by kernel_rfl
theorem laidOut : laidOutB Try.prog = true := by kernel_rfl

set_option maxRecDepth 100000 in
theorem lifted (os : Os) (started : os.Started) (H : Type) (enc : TypeId × Value → H) :
    ReturnsInHanded {} Try.checked os 3 .any (Rows.topServedSpec.pre6 enc Try.prog Try.f3 Rows.topServedRow.domain false) (Rows.topServedSpec.post enc Try.prog Try.f3 false true false false) := by
  refine returnsInHanded_of_change (C := Try.checked) own started (by kernel_rfl) Try.func3
    (ChangeSpec.witness6 (enc := enc) (C := Try.checked) false ⟨#[], #[.slice none 0 0, .int .i64 0, .int .i64 0, .slice none 0 0, .slice none 0 0], []⟩ 8 (by kernel_rfl) (by kernel_rfl) (by kernel_rfl) (by kernel_rfl)) ?_
  intro W base args ds gs before hval0 hW hcnd _
  have hval : ∀ (j : Nat) t v, Try.f3.params[j]? = some t → args[j]? = some v → Value.okWide Try.prog W .any base t v := hval0
  have hW' := hW
  obtain ⟨p, q, hA0, hV, rfl, hfz, hnd⟩ := hW
  have hA : DataW.TrodAll enc Try.prog W 0 (fun _ => true) true Try.f3.params.toList args.toList ds p := hA0
  rw [Try.params3] at hA hval
  obtain ⟨v0, vs0, d0, ds0, p0, q0, hargs, rfl, rfl, h0, r0⟩ := trodAll_cons hA
  obtain ⟨v1, vs1, d1, ds1, p1, q1, rfl, rfl, rfl, h1, r1⟩ := trodAll_cons r0
  obtain ⟨v2, vs2, d2, ds2, p2, q2, rfl, rfl, rfl, h2, r2⟩ := trodAll_cons r1
  obtain ⟨v3, vs3, d3, ds3, p3, q3, rfl, rfl, rfl, h3, r3⟩ := trodAll_cons r2
  obtain ⟨v4, vs4, d4, ds4, p4, q4, rfl, rfl, rfl, h4, r4⟩ := trodAll_cons r3
  obtain ⟨rfl, rfl, rfl⟩ := trodAll_nil r4
  obtain rfl : args = #[v0, v1, v2, v3, v4] := by cases args; simp_all
  obtain ⟨rfl, rfl⟩ := trodVars_none hV
  have k0 := h0
  have lt0 : ∀ x ∈ p0, x.block < W.heap.size := by obtain ⟨m, hm⟩ := k0; exact DataW.trod_lt m _ _ _ hm
  obtain ⟨b0, n0, cap0, rfl⟩ := okWide_slice Try.underlying22 (hval 0 22 v0 rfl rfl)
  obtain ⟨f0, g0, hrow0⟩ := rows_S h0 lt0
  obtain ⟨a1, rfl, rfl, rfl, w1⟩ := open_int Try.underlying3 (hval 1 3 v1 rfl rfl) h1
  obtain ⟨a2, rfl, rfl, rfl, w2⟩ := open_int Try.underlying3 (hval 2 3 v2 rfl rfl) h2
  have k3 := h3
  have lt3 : ∀ x ∈ p3, x.block < W.heap.size := by obtain ⟨m, hm⟩ := k3; exact DataW.trod_lt m _ _ _ hm
  obtain ⟨b3, n3, cap3, rfl⟩ := okWide_slice Try.underlying23 (hval 3 23 v3 rfl rfl)
  obtain ⟨xs3, rfl, hc3, -, hrow3, hwi3⟩ := rowsI h3 lt3
  have k4 := h4
  have lt4 : ∀ x ∈ p4, x.block < W.heap.size := by obtain ⟨m, hm⟩ := k4; exact DataW.trod_lt m _ _ _ hm
  obtain ⟨b4, n4, cap4, rfl⟩ := okWide_slice Try.underlying24 (hval 4 24 v4 rfl rfl)
  obtain ⟨f4, rfl, hrow4⟩ := rows_Q h4 lt4
  clear hA0 hval0
  refine (walk b0 n0 cap0 f0 g0 a1 a2 b3 cap3 xs3 b4 cap4 f4 W hrow0 w1 w2 hc3 hrow3 hwi3 hrow4).mono fun e W' ⟨he, bel⟩ => ?_
  subst he
  exact ⟨_, rfl, _, _, _, [], _, [], hW', trodAll_mk1 (shut_bool Try.underlying4 _), (trodAll_cons_mk (Below.trod laidOut (by kernel_rfl) (of_decide_eq_true (by kernel_rfl)) k0 bel lt0) (trodAll_cons_mk (shut_int Try.underlying3 w1) (trodAll_cons_mk (shut_int Try.underlying3 w2) (trodAll_cons_mk (Below.trod laidOut (by kernel_rfl) (of_decide_eq_true (by kernel_rfl)) k3 bel lt3) (trodAll_cons_mk (Below.trod laidOut (by kernel_rfl) (of_decide_eq_true (by kernel_rfl)) k4 bel lt4) trodAll_mk0))))), rfl, bel.frame _, fun h => by cases h⟩

theorem over : Rows.topServedRow.holds Try.pinned (OpenSpec.ofChange Rows.topServedSpec) :=
  OpenClaim.holds_of_wide 3 Try.f3 rfl rfl rfl rfl rfl rfl rfl ⟨rfl, rfl, rfl, rfl, rfl⟩ rfl rfl rfl rfl rfl (by kernel_rfl) Try.func3 (by kernel_rfl)
    (of_decide_eq_true (by kernel_rfl)) (by unfold Func.isWrapper; first | (rw [if_pos (by decide +kernel)]; kernel_rfl) | (rw [if_neg (by decide +kernel)]; exact ⟨rfl, rfl⟩))
    (fun os started H enc _ => lifted os started H enc)

/-- the statement -/
theorem proved : Rows.TopServedSaid := over
end Go.Proofs.Yteckbfebemofmaa.topServed
