/-
  The statement CodeWrapped: for every list of instructions, lock and index the law returns true.
  Conditions: none beyond those of the given row.
-/
import Derived.Test.YteeljnlepbnhkaaRows
import Derived.Test.YteeljnlepbnhkaaEO
import Derived.Test.YteeljnlepbnhkaaEY
import Derived.ProofKit
import Derived.OpenShut
import Derived.ShutString
import Derived.ChangeOld
import Derived.Lib.SmallJoins
set_option linter.unusedVariables false
set_option linter.unusedSimpArgs false
namespace Go.Proofs.Yteeljnlepbnhkaa.codeWrapped
open Go.ChangeShapes Go.WideShapes Go.ChangeAt Go.RowKit Go.Joins
open Go.ChangeMaps (open_string shut_string)
open Ec Fw

set_option maxRecDepth 20000 in
set_option maxHeartbeats 4000000 in
theorem walk (p : Option Addr) (n cap : Nat) (c A B : Nat → Int) (lock at' : Int) (w : World) (hR : RowIn w p n cap c A B) (w1 : (Lit.int .i64 lock).wf = true) (w2 : (Lit.int .i64 at').wf = true) :
    Calls Try.prog 7 #[.slice p n cap, vI lock, vI at'] w fun e w' => e = .returned (.bool true) ∧ Below w.heap.size w w' := by
  have hb : -9223372036854775808 ≤ at' ∧ at' ≤ 9223372036854775807 := by have q := w2; simp [Lit.wf, IntKind.min, IntKind.max, IntKind.signed, IntKind.bits] at q; omega
  obtain ⟨hb1, hb2⟩ := hb
  clear w1 w2
  refine calls_of Try.func7 rfl (m := 140) rfl [(0, .slice p n cap), (1, vI lock), (2, vI at')] (Fr_enter [.slice p n cap, vI lock, vI at'] 140 (Nat.le_of_ble_eq_true rfl)) ?_
  have hH1 : HP Tr w w [] := HP.refl w
  refine WC.seq fun K2 hK2 => ?_
  refine WC.region ?_
  refine WL.pure (v := .bool false) 6 rfl (Nat.le_of_ble_eq_true rfl) rfl rfl (by kernel_rfl) ?_
  refine WL.nil ?_
  refine WQ.then ?_
  refine hK2 _ _ _ ?_
  refine WC.seq fun K3 hK3 => ?_
  refine WC.seq fun K4 hK4 => ?_
  refine WC.region ?_
  refine WL.pure (v := .slice p n cap) 19 rfl (Nat.le_of_ble_eq_true rfl) rfl rfl (by kernel_rfl) ?_
  refine WL.pure (v := vI (n : Int)) 20 rfl (Nat.le_of_ble_eq_true rfl) rfl rfl (by kernel_rfl) ?_
  by_cases hl : (118 : Int) < (n : Int)
  ·
    refine WL.pure (v := .bool true) 21 rfl (Nat.le_of_ble_eq_true rfl) rfl rfl (x_gtr rfl rfl rfl (dT (hl))) ?_
    refine WL.pure (v := .bool true) 22 rfl (Nat.le_of_ble_eq_true rfl) rfl rfl (by kernel_rfl) ?_
    refine WL.pass 23 rfl (Nat.le_of_ble_eq_true rfl) rfl ?_
    refine WL.pass 24 rfl (Nat.le_of_ble_eq_true rfl) rfl ?_
    refine WL.pure (v := .bool true) 25 rfl (Nat.le_of_ble_eq_true rfl) rfl rfl (by kernel_rfl) ?_
    refine WL.pure (v := .bool true) 26 rfl (Nat.le_of_ble_eq_true rfl) rfl rfl (by kernel_rfl) ?_
    refine WL.pass 27 rfl (Nat.le_of_ble_eq_true rfl) rfl ?_
    refine WL.pass 28 rfl (Nat.le_of_ble_eq_true rfl) rfl ?_
    refine WL.pure (v := .bool true) 29 rfl (Nat.le_of_ble_eq_true rfl) rfl rfl (by kernel_rfl) ?_
    refine WL.pure (v := .bool true) 30 rfl (Nat.le_of_ble_eq_true rfl) rfl rfl (by kernel_rfl) ?_
    refine WL.pass 31 rfl (Nat.le_of_ble_eq_true rfl) rfl ?_
    refine WL.pass 32 rfl (Nat.le_of_ble_eq_true rfl) rfl ?_
    refine WL.pass 33 rfl (Nat.le_of_ble_eq_true rfl) rfl ?_
    refine WL.pure (v := .bool true) 34 rfl (Nat.le_of_ble_eq_true rfl) rfl rfl (by kernel_rfl) ?_
    refine WL.nil ?_
    refine WQ.then ?_
    refine hK4 _ _ _ ?_
    refine WC.sub (l' := [(0, .slice p n cap), (1, vI lock), (2, vI at'), (6, .bool false), (34, .bool true)]) ⟨rfl, rfl, rfl, rfl, rfl, trivial⟩ ?_
    refine WC.yes rfl ?_
    refine WC.seq fun K5 hK5 => ?_
    refine WC.region ?_
    refine WL.call (f := 14) (args := #[]) 35 rfl (Nat.le_of_ble_eq_true rfl) rfl rfl (by kernel_rfl) ?_
    refine (sane_any _).mono ?_
    rintro e w6 ⟨rfl, hb7⟩
    refine ⟨_, rfl, ?_⟩
    have hH8 : HP Tr w _ [] := HP.call hH1 hb7
    refine WL.pure (v := .bool true) 6 rfl (Nat.le_of_ble_eq_true rfl) rfl rfl (by kernel_rfl) ?_
    refine WL.nil ?_
    refine WQ.then ?_
    refine hK5 _ _ _ ?_
    refine WC.ret ?_
    refine WQ.thenRet ?_
    refine WQ.ret1 6 rfl rfl ?_
    exact ⟨rfl, HP.below hH8⟩
  ·
    refine WL.pure (v := .bool false) 21 rfl (Nat.le_of_ble_eq_true rfl) rfl rfl (x_gtr rfl rfl rfl (dF (hl))) ?_
    refine WL.pure (v := .bool false) 22 rfl (Nat.le_of_ble_eq_true rfl) rfl rfl (by kernel_rfl) ?_
    refine WL.pure (v := vI lock) 23 rfl (Nat.le_of_ble_eq_true rfl) rfl rfl (by kernel_rfl) ?_
    by_cases hl0 : lock < 0
    ·
      refine WL.pure (v := .bool true) 24 rfl (Nat.le_of_ble_eq_true rfl) rfl rfl (x_lss rfl rfl rfl (dT (hl0))) ?_
      refine WL.pure (v := .bool true) 25 rfl (Nat.le_of_ble_eq_true rfl) rfl rfl (by kernel_rfl) ?_
      refine WL.pure (v := .bool true) 26 rfl (Nat.le_of_ble_eq_true rfl) rfl rfl (by kernel_rfl) ?_
      refine WL.pass 27 rfl (Nat.le_of_ble_eq_true rfl) rfl ?_
      refine WL.pass 28 rfl (Nat.le_of_ble_eq_true rfl) rfl ?_
      refine WL.pure (v := .bool true) 29 rfl (Nat.le_of_ble_eq_true rfl) rfl rfl (by kernel_rfl) ?_
      refine WL.pure (v := .bool true) 30 rfl (Nat.le_of_ble_eq_true rfl) rfl rfl (by kernel_rfl) ?_
      refine WL.pass 31 rfl (Nat.le_of_ble_eq_true rfl) rfl ?_
      refine WL.pass 32 rfl (Nat.le_of_ble_eq_true rfl) rfl ?_
      refine WL.pass 33 rfl (Nat.le_of_ble_eq_true rfl) rfl ?_
      refine WL.pure (v := .bool true) 34 rfl (Nat.le_of_ble_eq_true rfl) rfl rfl (by kernel_rfl) ?_
      refine WL.nil ?_
      refine WQ.then ?_
      refine hK4 _ _ _ ?_
      refine WC.sub (l' := [(0, .slice p n cap), (1, vI lock), (2, vI at'), (6, .bool false), (34, .bool true)]) ⟨rfl, rfl, rfl, rfl, rfl, trivial⟩ ?_
      refine WC.yes rfl ?_
      refine WC.seq fun K9 hK9 => ?_
      refine WC.region ?_
      refine WL.call (f := 14) (args := #[]) 35 rfl (Nat.le_of_ble_eq_true rfl) rfl rfl (by kernel_rfl) ?_
      refine (sane_any _).mono ?_
      rintro e w10 ⟨rfl, hb11⟩
      refine ⟨_, rfl, ?_⟩
      have hH12 : HP Tr w _ [] := HP.call hH1 hb11
      refine WL.pure (v := .bool true) 6 rfl (Nat.le_of_ble_eq_true rfl) rfl rfl (by kernel_rfl) ?_
      refine WL.nil ?_
      refine WQ.then ?_
      refine hK9 _ _ _ ?_
      refine WC.ret ?_
      refine WQ.thenRet ?_
      refine WQ.ret1 6 rfl rfl ?_
      exact ⟨rfl, HP.below hH12⟩
    ·
      refine WL.pure (v := .bool false) 24 rfl (Nat.le_of_ble_eq_true rfl) rfl rfl (x_lss rfl rfl rfl (dF (hl0))) ?_
      refine WL.pure (v := .bool false) 25 rfl (Nat.le_of_ble_eq_true rfl) rfl rfl (by kernel_rfl) ?_
      refine WL.pure (v := .bool false) 26 rfl (Nat.le_of_ble_eq_true rfl) rfl rfl (by kernel_rfl) ?_
      refine WL.pure (v := vI lock) 27 rfl (Nat.le_of_ble_eq_true rfl) rfl rfl (by kernel_rfl) ?_
      by_cases hl6 : (6 : Int) ≤ lock
      ·
        refine WL.pure (v := .bool true) 28 rfl (Nat.le_of_ble_eq_true rfl) rfl rfl (x_geq rfl rfl rfl (dT (hl6))) ?_
        refine WL.pure (v := .bool true) 29 rfl (Nat.le_of_ble_eq_true rfl) rfl rfl (by kernel_rfl) ?_
        refine WL.pure (v := .bool true) 30 rfl (Nat.le_of_ble_eq_true rfl) rfl rfl (by kernel_rfl) ?_
        refine WL.pass 31 rfl (Nat.le_of_ble_eq_true rfl) rfl ?_
        refine WL.pass 32 rfl (Nat.le_of_ble_eq_true rfl) rfl ?_
        refine WL.pass 33 rfl (Nat.le_of_ble_eq_true rfl) rfl ?_
        refine WL.pure (v := .bool true) 34 rfl (Nat.le_of_ble_eq_true rfl) rfl rfl (by kernel_rfl) ?_
        refine WL.nil ?_
        refine WQ.then ?_
        refine hK4 _ _ _ ?_
        refine WC.sub (l' := [(0, .slice p n cap), (1, vI lock), (2, vI at'), (6, .bool false), (34, .bool true)]) ⟨rfl, rfl, rfl, rfl, rfl, trivial⟩ ?_
        refine WC.yes rfl ?_
        refine WC.seq fun K13 hK13 => ?_
        refine WC.region ?_
        refine WL.call (f := 14) (args := #[]) 35 rfl (Nat.le_of_ble_eq_true rfl) rfl rfl (by kernel_rfl) ?_
        refine (sane_any _).mono ?_
        rintro e w14 ⟨rfl, hb15⟩
        refine ⟨_, rfl, ?_⟩
        have hH16 : HP Tr w _ [] := HP.call hH1 hb15
        refine WL.pure (v := .bool true) 6 rfl (Nat.le_of_ble_eq_true rfl) rfl rfl (by kernel_rfl) ?_
        refine WL.nil ?_
        refine WQ.then ?_
        refine hK13 _ _ _ ?_
        refine WC.ret ?_
        refine WQ.thenRet ?_
        refine WQ.ret1 6 rfl rfl ?_
        exact ⟨rfl, HP.below hH16⟩
      ·
        refine WL.pure (v := .bool false) 28 rfl (Nat.le_of_ble_eq_true rfl) rfl rfl (x_geq rfl rfl rfl (dF (hl6))) ?_
        refine WL.pure (v := .bool false) 29 rfl (Nat.le_of_ble_eq_true rfl) rfl rfl (by kernel_rfl) ?_
        refine WL.pure (v := .bool false) 30 rfl (Nat.le_of_ble_eq_true rfl) rfl rfl (by kernel_rfl) ?_
        refine WL.pure (v := .slice p n cap) 31 rfl (Nat.le_of_ble_eq_true rfl) rfl rfl (by kernel_rfl) ?_
        refine WL.call (f := 17) (args := #[.slice p n cap, .bool false]) 32 rfl (Nat.le_of_ble_eq_true rfl) rfl rfl (by kernel_rfl) ?_
        refine (rCheck_any _ _ _ c A B false _ (hR.inC.below (HP.below hH1)) (by omega)).mono ?_
        rintro e w17 ⟨rfl, hb18⟩
        refine ⟨_, rfl, ?_⟩
        have hH19 : HP Tr w _ [] := HP.call hH1 hb18
        by_cases hc : chk c A B false n ≠ 0
        ·
          refine WL.pure (v := .bool true) 33 rfl (Nat.le_of_ble_eq_true rfl) rfl rfl (x_neq rfl rfl rfl (dT (hc))) ?_
          refine WL.pure (v := .bool true) 34 rfl (Nat.le_of_ble_eq_true rfl) rfl rfl (by kernel_rfl) ?_
          refine WL.nil ?_
          refine WQ.then ?_
          refine hK4 _ _ _ ?_
          refine WC.sub (l' := [(0, .slice p n cap), (1, vI lock), (2, vI at'), (6, .bool false), (34, .bool true)]) ⟨rfl, rfl, rfl, rfl, rfl, trivial⟩ ?_
          refine WC.yes rfl ?_
          refine WC.seq fun K20 hK20 => ?_
          refine WC.region ?_
          refine WL.call (f := 14) (args := #[]) 35 rfl (Nat.le_of_ble_eq_true rfl) rfl rfl (by kernel_rfl) ?_
          refine (sane_any _).mono ?_
          rintro e w21 ⟨rfl, hb22⟩
          refine ⟨_, rfl, ?_⟩
          have hH23 : HP Tr w _ [] := HP.call hH19 hb22
          refine WL.pure (v := .bool true) 6 rfl (Nat.le_of_ble_eq_true rfl) rfl rfl (by kernel_rfl) ?_
          refine WL.nil ?_
          refine WQ.then ?_
          refine hK20 _ _ _ ?_
          refine WC.ret ?_
          refine WQ.thenRet ?_
          refine WQ.ret1 6 rfl rfl ?_
          exact ⟨rfl, HP.below hH23⟩
        ·
          have hck : chk c A B false n = 0 := by omega
          refine WL.pure (v := .bool false) 33 rfl (Nat.le_of_ble_eq_true rfl) rfl rfl (x_neq rfl rfl rfl (dF (hc))) ?_
          refine WL.pure (v := .bool false) 34 rfl (Nat.le_of_ble_eq_true rfl) rfl rfl (by kernel_rfl) ?_
          refine WL.nil ?_
          refine WQ.then ?_
          refine hK4 _ _ _ ?_
          refine WC.sub (l' := [(0, .slice p n cap), (1, vI lock), (2, vI at'), (6, .bool false), (34, .bool false)]) ⟨rfl, rfl, rfl, rfl, rfl, trivial⟩ ?_
          refine WC.no rfl ?_
          refine WC.skip ?_
          refine WQ.then ?_
          refine hK3 _ _ _ ?_
          refine WC.seq fun K24 hK24 => ?_
          refine WC.region ?_
          refine WL.pure (v := vI lock) 36 rfl (Nat.le_of_ble_eq_true rfl) rfl rfl (by kernel_rfl) ?_
          refine WL.pure (v := .agg #[vI 31, vI lock, vI 0]) 37 rfl (Nat.le_of_ble_eq_true rfl) rfl rfl (by kernel_rfl) ?_
          refine WL.alloc (c := #[vI 31, vI lock, vI 0]) (T := 23) hH19 38 rfl (by decide) rfl rfl (fun b25 => vS b25 1 1) (by kernel_rfl) (fun b25 w26 hw26 => ?_)
          have hH27 : HP Tr w w26 [.cel b25 #[vI 31, vI lock, vI 0] 23] := hw26.2
          have nb25 := hw26.1
          clear hw26
          refine WL.pure (v := .slice p n cap) 39 rfl (Nat.le_of_ble_eq_true rfl) rfl rfl (by kernel_rfl) ?_
          have hO := HP.setSame hH27 0 (e' := .own (vS b25 1 1) 1 [vI 31, vI lock, vI 0] 23 3) rfl (lit_own (HP.get hH27 0 rfl)) rfl
          have hH28 : HP Tr w _ [.own (vS b25 1 1) 1 [vI 31, vI lock, vI 0] 23 3] := hO
          obtain ⟨i0, hi0, hz0, hz1, hz2⟩ := infoR'
          refine WL.appendSrc (insL c A B n) 0 hH28 40 rfl (by decide) rfl rfl rfl rfl Try.underlying30 hi0 hz0 hz1 hz2 rfl (by decide) rfl (hR.below (HP.below hH28)).src (insL_len _ _ _ _) (insL_one _ _ _ _) (by unfold maxLen; omega) (by omega) ?_
          rintro v2 w2 - hA
          have hA2 := HP.eq (H' := [.own v2 (n + 1) (insL (wrp 31 35 n c) (wrp lock 0 n A) (wrp 0 0 n B) (n + 1)) 23 3]) hA (by rw [wrp_1, Nat.add_comm 1 n]; rfl)
          obtain ⟨pv, cp, rfl⟩ := own_slice (HP.get hA2 0 rfl)
          have hH29 : HP Tr w _ [.own (.slice pv (n + 1) cp) (n + 1) (insL (wrp 31 35 n c) (wrp lock 0 n A) (wrp 0 0 n B) (n + 1)) 23 3] := hA2
          refine WL.pure (v := .slice pv (n + 1) cp) 7 rfl (Nat.le_of_ble_eq_true rfl) rfl rfl (by kernel_rfl) ?_
          refine WL.nil ?_
          refine WQ.then ?_
          refine hK24 _ _ _ ?_
          refine WC.seq fun K30 hK30 => ?_
          refine WC.region ?_
          refine WL.pure (v := .slice pv (n + 1) cp) 41 rfl (Nat.le_of_ble_eq_true rfl) rfl rfl (by kernel_rfl) ?_
          refine WL.pure (v := .agg #[vI 35, vI 0, vI 0]) 42 rfl (Nat.le_of_ble_eq_true rfl) rfl rfl (by kernel_rfl) ?_
          refine WL.alloc (c := #[vI 35, vI 0, vI 0]) (T := 23) hH29 43 rfl (by decide) rfl rfl (fun b31 => vS b31 1 1) (by kernel_rfl) (fun b31 w32 hw32 => ?_)
          have hH33 : HP Tr w w32 [.own (.slice pv (n + 1) cp) (n + 1) (insL (wrp 31 35 n c) (wrp lock 0 n A) (wrp 0 0 n B) (n + 1)) 23 3, .cel b31 #[vI 35, vI 0, vI 0] 23] := hw32.2
          have nb31 := hw32.1
          clear hw32
          refine WL.append (news := [vI 35, vI 0, vI 0]) 0 1 hH33 44 rfl (by decide) rfl rfl rfl rfl Try.underlying30 hi0 hz0 hz1 hz2 rfl (by decide) rfl rfl rfl rfl (by simp [Value.oneCell']) (by unfold maxLen; omega) (by omega) ?_
          rintro v3 w3 - hA3
          have hA4 := HP.eq (H' := [.own v3 (n + 2) (insL (wrp 31 35 n c) (wrp lock 0 n A) (wrp 0 0 n B) (n + 2)) 23 3, .cel b31 #[vI 35, vI 0, vI 0] 23]) hA3 (by rw [wrp_2]; rfl)
          obtain ⟨qv, cq, rfl⟩ := own_slice (HP.get hA4 0 rfl)
          have hH34 : HP Tr w _ [.own (.slice qv (n + 2) cq) (n + 2) (insL (wrp 31 35 n c) (wrp lock 0 n A) (wrp 0 0 n B) (n + 2)) 23 3, .cel b31 #[vI 35, vI 0, vI 0] 23] := hA4
          refine WL.pure (v := .slice qv (n + 2) cq) 7 rfl (Nat.le_of_ble_eq_true rfl) rfl rfl (by kernel_rfl) ?_
          refine WL.nil ?_
          refine WQ.then ?_
          refine hK30 _ _ _ ?_
          refine WC.sub (l' := [(0, .slice p n cap), (1, vI lock), (2, vI at'), (6, .bool false), (7, .slice qv (n + 2) cq), (34, .bool false)]) ⟨rfl, rfl, rfl, rfl, rfl, rfl, trivial⟩ ?_
          refine WC.seq fun K35 hK35 => ?_
          refine WC.region ?_
          refine WL.pure (v := .slice p n cap) 46 rfl (Nat.le_of_ble_eq_true rfl) rfl rfl (by kernel_rfl) ?_
          refine WL.call (f := 24) (args := #[.slice p n cap]) 47 rfl (Nat.le_of_ble_eq_true rfl) rfl rfl (by kernel_rfl) ?_
          refine (rDepth_any _ _ _ c A B _ (hR.inC.below (HP.below hH34)) (by omega)).mono ?_
          rintro e w36 ⟨rfl, hb37⟩
          refine ⟨_, rfl, ?_⟩
          have hH38 : HP Tr w _ [.own (.slice qv (n + 2) cq) (n + 2) (insL (wrp 31 35 n c) (wrp lock 0 n A) (wrp 0 0 n B) (n + 2)) 23 3, .cel b31 #[vI 35, vI 0, vI 0] 23] := HP.call hH34 hb37
          have hdp := dp_ok hck
          have hm6 := (chk_bal hck).hm
          refine WL.pure (v := .tuple #[vI (dpD c A B n), vI (chk c A B false n)]) 45 rfl (Nat.le_of_ble_eq_true rfl) rfl rfl (by kernel_rfl) ?_
          refine WL.pure (v := vI (dpD c A B n)) 48 rfl (Nat.le_of_ble_eq_true rfl) rfl rfl (by kernel_rfl) ?_
          refine WL.pure (v := vI (chk c A B false n)) 49 rfl (Nat.le_of_ble_eq_true rfl) rfl rfl (by kernel_rfl) ?_
          refine WL.pure (v := vI (dpD c A B n)) 8 rfl (Nat.le_of_ble_eq_true rfl) rfl rfl (by kernel_rfl) ?_
          refine WL.pure (v := vI (chk c A B false n)) 9 rfl (Nat.le_of_ble_eq_true rfl) rfl rfl (by kernel_rfl) ?_
          refine WL.nil ?_
          refine WQ.then ?_
          refine hK35 _ _ _ ?_
          refine WC.sub (l' := [(0, .slice p n cap), (1, vI lock), (2, vI at'), (6, .bool false), (7, .slice qv (n + 2) cq), (8, vI (dpD c A B n)), (34, .bool false)]) ⟨rfl, rfl, rfl, rfl, rfl, rfl, rfl, trivial⟩ ?_
          refine WC.seq fun K39 hK39 => ?_
          refine WC.seq fun K40 hK40 => ?_
          refine WC.region ?_
          refine WL.pure (v := vI (dpD c A B n)) 50 rfl (Nat.le_of_ble_eq_true rfl) rfl rfl (by kernel_rfl) ?_
          by_cases h6 : dpD c A B n = 6
          ·
            have h7 := wrp_chk (A := A) (B := B) (show n ≤ 118 by omega) (show 0 ≤ lock by omega) (show lock < 6 by omega) hck
            rw [if_pos (show (shD c n).m = 6 by omega)] at h7
            refine WL.pure (v := .bool true) 51 rfl (Nat.le_of_ble_eq_true rfl) rfl rfl (x_eql rfl rfl rfl (dT (h6))) ?_
            refine WL.nil ?_
            refine WQ.then ?_
            refine hK40 _ _ _ ?_
            refine WC.yes rfl ?_
            refine WC.seq fun K41 hK41 => ?_
            refine WC.region ?_
            refine WL.pure (v := .slice qv (n + 2) cq) 52 rfl (Nat.le_of_ble_eq_true rfl) rfl rfl (by kernel_rfl) ?_
            refine WL.call (f := 16) (args := #[.slice qv (n + 2) cq, .bool false]) 53 rfl (Nat.le_of_ble_eq_true rfl) rfl rfl (by kernel_rfl) ?_
            refine (Check_any _ _ _ (wrp 31 35 n c) (wrp lock 0 n A) (wrp 0 0 n B) false _ ((own_rowIn (HP.get hH38 0 rfl)).inC) (by omega)).mono ?_
            rintro e w42 ⟨rfl, hb43⟩
            refine ⟨_, rfl, ?_⟩
            have hH44 : HP Tr w _ [.own (.slice qv (n + 2) cq) (n + 2) (insL (wrp 31 35 n c) (wrp lock 0 n A) (wrp 0 0 n B) (n + 2)) 23 3, .cel b31 #[vI 35, vI 0, vI 0] 23] := HP.call hH38 hb43
            refine WL.pure (v := .bool true) 54 rfl (Nat.le_of_ble_eq_true rfl) rfl rfl (x_eql rfl rfl rfl (dT (h7))) ?_
            refine WL.pure (v := .bool true) 55 rfl (Nat.le_of_ble_eq_true rfl) rfl rfl (by kernel_rfl) ?_
            refine WL.call (f := 14) (args := #[]) 56 rfl (Nat.le_of_ble_eq_true rfl) rfl rfl (by kernel_rfl) ?_
            refine (sane_any _).mono ?_
            rintro e w45 ⟨rfl, hb46⟩
            refine ⟨_, rfl, ?_⟩
            have hH47 : HP Tr w _ [.own (.slice qv (n + 2) cq) (n + 2) (insL (wrp 31 35 n c) (wrp lock 0 n A) (wrp 0 0 n B) (n + 2)) 23 3, .cel b31 #[vI 35, vI 0, vI 0] 23] := HP.call hH44 hb46
            refine WL.pure (v := .bool true) 57 rfl (Nat.le_of_ble_eq_true rfl) rfl rfl (by kernel_rfl) ?_
            refine WL.pure (v := .bool true) 6 rfl (Nat.le_of_ble_eq_true rfl) rfl rfl (by kernel_rfl) ?_
            refine WL.nil ?_
            refine WQ.then ?_
            refine hK41 _ _ _ ?_
            refine WC.sub (l' := [(0, .slice p n cap), (1, vI lock), (2, vI at'), (6, .bool true), (7, .slice qv (n + 2) cq), (8, vI (dpD c A B n)), (34, .bool false), (51, .bool true)]) ⟨rfl, rfl, rfl, rfl, rfl, rfl, rfl, rfl, trivial⟩ ?_
            refine WC.ret ?_
            refine WQ.thenRet ?_
            refine WQ.ret1 6 rfl rfl ?_
            exact ⟨rfl, HP.below hH47⟩
          ·
            refine WL.pure (v := .bool false) 51 rfl (Nat.le_of_ble_eq_true rfl) rfl rfl (x_eql rfl rfl rfl (dF (h6))) ?_
            refine WL.nil ?_
            refine WQ.then ?_
            refine hK40 _ _ _ ?_
            refine WC.no rfl ?_
            refine WC.skip ?_
            refine WQ.then ?_
            refine hK39 _ _ _ ?_
            refine WC.seq fun K48 hK48 => ?_
            refine WC.region ?_
            refine WL.pure (v := .slice qv (n + 2) cq) 59 rfl (Nat.le_of_ble_eq_true rfl) rfl rfl (by kernel_rfl) ?_
            have h6m : ¬ (shD c n).m = 6 := by omega
            obtain ⟨wa, wb, wc, wd, we⟩ := wrp_ans (A := A) (B := B) (show n ≤ 118 by omega) (show 0 ≤ lock by omega) (show lock < 6 by omega) hck h6m
            refine WL.call (f := 23) (args := #[.slice qv (n + 2) cq]) 60 rfl (Nat.le_of_ble_eq_true rfl) rfl rfl (by kernel_rfl) ?_
            refine (Depth_any _ _ _ (wrp 31 35 n c) (wrp lock 0 n A) (wrp 0 0 n B) _ ((own_rowIn (HP.get hH38 0 rfl)).inC) (by omega)).mono ?_
            rintro e w49 ⟨rfl, hb50⟩
            refine ⟨_, rfl, ?_⟩
            have hH51 : HP Tr w _ [.own (.slice qv (n + 2) cq) (n + 2) (insL (wrp 31 35 n c) (wrp lock 0 n A) (wrp 0 0 n B) (n + 2)) 23 3, .cel b31 #[vI 35, vI 0, vI 0] 23] := HP.call hH38 hb50
            refine WL.pure (v := .tuple #[vI (dpD (wrp 31 35 n c) (wrp lock 0 n A) (wrp 0 0 n B) (n + 2)), vI (chk (wrp 31 35 n c) (wrp lock 0 n A) (wrp 0 0 n B) false (n + 2))]) 58 rfl (Nat.le_of_ble_eq_true rfl) rfl rfl (by kernel_rfl) ?_
            refine WL.pure (v := vI (dpD (wrp 31 35 n c) (wrp lock 0 n A) (wrp 0 0 n B) (n + 2))) 61 rfl (Nat.le_of_ble_eq_true rfl) rfl rfl (by kernel_rfl) ?_
            refine WL.pure (v := vI (chk (wrp 31 35 n c) (wrp lock 0 n A) (wrp 0 0 n B) false (n + 2))) 62 rfl (Nat.le_of_ble_eq_true rfl) rfl rfl (by kernel_rfl) ?_
            refine WL.pure (v := vI (dpD (wrp 31 35 n c) (wrp lock 0 n A) (wrp 0 0 n B) (n + 2))) 10 rfl (Nat.le_of_ble_eq_true rfl) rfl rfl (by kernel_rfl) ?_
            refine WL.pure (v := vI (chk (wrp 31 35 n c) (wrp lock 0 n A) (wrp 0 0 n B) false (n + 2))) 11 rfl (Nat.le_of_ble_eq_true rfl) rfl rfl (by kernel_rfl) ?_
            refine WL.nil ?_
            refine WQ.then ?_
            refine hK48 _ _ _ ?_
            refine WC.sub (l' := [(0, .slice p n cap), (1, vI lock), (2, vI at'), (6, .bool false), (7, .slice qv (n + 2) cq), (8, vI (dpD c A B n)), (10, vI (dpD (wrp 31 35 n c) (wrp lock 0 n A) (wrp 0 0 n B) (n + 2))), (11, vI (chk (wrp 31 35 n c) (wrp lock 0 n A) (wrp 0 0 n B) false (n + 2))), (34, .bool false), (51, .bool false)]) ⟨rfl, rfl, rfl, rfl, rfl, rfl, rfl, rfl, rfl, rfl, trivial⟩ ?_
            refine WC.seq fun K52 hK52 => ?_
            refine WC.region ?_
            refine WL.pure (v := .slice qv (n + 2) cq) 64 rfl (Nat.le_of_ble_eq_true rfl) rfl rfl (by kernel_rfl) ?_
            refine WL.call (f := 19) (args := #[.slice qv (n + 2) cq, vI 0]) 65 rfl (Nat.le_of_ble_eq_true rfl) rfl rfl (by kernel_rfl) ?_
            refine (Match2_any _ _ _ (wrp 31 35 n c) (wrp lock 0 n A) (wrp 0 0 n B) 0 _ ((own_rowIn (HP.get hH51 0 rfl)).inC) (by omega) (by omega) (by omega)).mono ?_
            rintro e w53 ⟨rfl, hb54⟩
            refine ⟨_, rfl, ?_⟩
            have hH55 : HP Tr w _ [.own (.slice qv (n + 2) cq) (n + 2) (insL (wrp 31 35 n c) (wrp lock 0 n A) (wrp 0 0 n B) (n + 2)) 23 3, .cel b31 #[vI 35, vI 0, vI 0] 23] := HP.call hH51 hb54
            refine WL.pure (v := .tuple #[vI (maA (wrp 31 35 n c) (wrp lock 0 n A) (wrp 0 0 n B) (n + 2) 0), vI (maE (wrp 31 35 n c) (wrp lock 0 n A) (wrp 0 0 n B) (n + 2) 0), vI (maF (wrp 31 35 n c) (wrp lock 0 n A) (wrp 0 0 n B) (n + 2) 0)]) 63 rfl (Nat.le_of_ble_eq_true rfl) rfl rfl (by kernel_rfl) ?_
            refine WL.pure (v := vI (maA (wrp 31 35 n c) (wrp lock 0 n A) (wrp 0 0 n B) (n + 2) 0)) 66 rfl (Nat.le_of_ble_eq_true rfl) rfl rfl (by kernel_rfl) ?_
            refine WL.pure (v := vI (maE (wrp 31 35 n c) (wrp lock 0 n A) (wrp 0 0 n B) (n + 2) 0)) 67 rfl (Nat.le_of_ble_eq_true rfl) rfl rfl (by kernel_rfl) ?_
            refine WL.pure (v := vI (maF (wrp 31 35 n c) (wrp lock 0 n A) (wrp 0 0 n B) (n + 2) 0)) 68 rfl (Nat.le_of_ble_eq_true rfl) rfl rfl (by kernel_rfl) ?_
            refine WL.pure (v := vI (maA (wrp 31 35 n c) (wrp lock 0 n A) (wrp 0 0 n B) (n + 2) 0)) 12 rfl (Nat.le_of_ble_eq_true rfl) rfl rfl (by kernel_rfl) ?_
            refine WL.pure (v := vI (maE (wrp 31 35 n c) (wrp lock 0 n A) (wrp 0 0 n B) (n + 2) 0)) 13 rfl (Nat.le_of_ble_eq_true rfl) rfl rfl (by kernel_rfl) ?_
            refine WL.pure (v := vI (maF (wrp 31 35 n c) (wrp lock 0 n A) (wrp 0 0 n B) (n + 2) 0)) 14 rfl (Nat.le_of_ble_eq_true rfl) rfl rfl (by kernel_rfl) ?_
            refine WL.nil ?_
            refine WQ.then ?_
            refine hK52 _ _ _ ?_
            refine WC.sub (l' := [(0, .slice p n cap), (1, vI lock), (2, vI at'), (6, .bool false), (7, .slice qv (n + 2) cq), (8, vI (dpD c A B n)), (10, vI (dpD (wrp 31 35 n c) (wrp lock 0 n A) (wrp 0 0 n B) (n + 2))), (11, vI (chk (wrp 31 35 n c) (wrp lock 0 n A) (wrp 0 0 n B) false (n + 2))), (12, vI (maA (wrp 31 35 n c) (wrp lock 0 n A) (wrp 0 0 n B) (n + 2) 0)), (13, vI (maE (wrp 31 35 n c) (wrp lock 0 n A) (wrp 0 0 n B) (n + 2) 0)), (14, vI (maF (wrp 31 35 n c) (wrp lock 0 n A) (wrp 0 0 n B) (n + 2) 0)), (34, .bool false), (51, .bool false)]) ⟨rfl, rfl, rfl, rfl, rfl, rfl, rfl, rfl, rfl, rfl, rfl, rfl, rfl, trivial⟩ ?_
            refine WC.seq fun K56 hK56 => ?_
            refine WC.seq fun K57 hK57 => ?_
            refine WC.region ?_
            refine WL.pure (v := vI (dpD (wrp 31 35 n c) (wrp lock 0 n A) (wrp 0 0 n B) (n + 2))) 69 rfl (Nat.le_of_ble_eq_true rfl) rfl rfl (by kernel_rfl) ?_
            refine WL.pure (v := vI (dpD c A B n)) 70 rfl (Nat.le_of_ble_eq_true rfl) rfl rfl (by kernel_rfl) ?_
            refine WL.pure (v := vI (dpD c A B n + 1)) 71 rfl (Nat.le_of_ble_eq_true rfl) rfl rfl (x_add (Z := dpD c A B n + 1) rfl rfl rfl (by omega) (by omega) (by omega)) ?_
            refine WL.pure (v := .bool false) 72 rfl (Nat.le_of_ble_eq_true rfl) rfl rfl (x_neq rfl rfl rfl (dF (fun h => h wb))) ?_
            refine WL.pure (v := .bool false) 73 rfl (Nat.le_of_ble_eq_true rfl) rfl rfl (by kernel_rfl) ?_
            refine WL.pure (v := vI (chk (wrp 31 35 n c) (wrp lock 0 n A) (wrp 0 0 n B) false (n + 2))) 74 rfl (Nat.le_of_ble_eq_true rfl) rfl rfl (by kernel_rfl) ?_
            refine WL.pure (v := .bool false) 75 rfl (Nat.le_of_ble_eq_true rfl) rfl rfl (x_neq rfl rfl rfl (dF (fun h => h wa))) ?_
            refine WL.pure (v := .bool false) 76 rfl (Nat.le_of_ble_eq_true rfl) rfl rfl (by kernel_rfl) ?_
            refine WL.pure (v := .bool false) 77 rfl (Nat.le_of_ble_eq_true rfl) rfl rfl (by kernel_rfl) ?_
            refine WL.pure (v := vI (maA (wrp 31 35 n c) (wrp lock 0 n A) (wrp 0 0 n B) (n + 2) 0)) 78 rfl (Nat.le_of_ble_eq_true rfl) rfl rfl (by kernel_rfl) ?_
            refine WL.pure (v := .bool false) 79 rfl (Nat.le_of_ble_eq_true rfl) rfl rfl (x_neq rfl rfl rfl (dF (fun h => h wd))) ?_
            refine WL.pure (v := .bool false) 80 rfl (Nat.le_of_ble_eq_true rfl) rfl rfl (by kernel_rfl) ?_
            refine WL.pure (v := .bool false) 81 rfl (Nat.le_of_ble_eq_true rfl) rfl rfl (by kernel_rfl) ?_
            refine WL.pure (v := vI (maE (wrp 31 35 n c) (wrp lock 0 n A) (wrp 0 0 n B) (n + 2) 0)) 82 rfl (Nat.le_of_ble_eq_true rfl) rfl rfl (by kernel_rfl) ?_
            refine WL.pure (v := .slice qv (n + 2) cq) 83 rfl (Nat.le_of_ble_eq_true rfl) rfl rfl (by kernel_rfl) ?_
            refine WL.pure (v := vI ((n + 2 : Nat) : Int)) 84 rfl (Nat.le_of_ble_eq_true rfl) rfl rfl (by kernel_rfl) ?_
            refine WL.pure (v := vI ((n + 1 : Nat) : Int)) 85 rfl (Nat.le_of_ble_eq_true rfl) rfl rfl (x_sub (Z := ((n + 1 : Nat) : Int)) rfl rfl rfl (by omega) (by omega) (by omega)) ?_
            refine WL.pure (v := .bool false) 86 rfl (Nat.le_of_ble_eq_true rfl) rfl rfl (x_neq rfl rfl rfl (dF (fun h => h we))) ?_
            refine WL.pure (v := .bool false) 87 rfl (Nat.le_of_ble_eq_true rfl) rfl rfl (by kernel_rfl) ?_
            refine WL.pure (v := .bool false) 88 rfl (Nat.le_of_ble_eq_true rfl) rfl rfl (by kernel_rfl) ?_
            refine WL.pure (v := vI (maF (wrp 31 35 n c) (wrp lock 0 n A) (wrp 0 0 n B) (n + 2) 0)) 89 rfl (Nat.le_of_ble_eq_true rfl) rfl rfl (by kernel_rfl) ?_
            refine WL.pure (v := .bool false) 90 rfl (Nat.le_of_ble_eq_true rfl) rfl rfl (x_neq rfl rfl rfl (dF (fun h => h wc))) ?_
            refine WL.pure (v := .bool false) 91 rfl (Nat.le_of_ble_eq_true rfl) rfl rfl (by kernel_rfl) ?_
            refine WL.nil ?_
            refine WQ.then ?_
            refine hK57 _ _ _ ?_
            refine WC.sub (l' := [(0, .slice p n cap), (1, vI lock), (2, vI at'), (6, .bool false), (7, .slice qv (n + 2) cq), (8, vI (dpD c A B n)), (10, vI (dpD (wrp 31 35 n c) (wrp lock 0 n A) (wrp 0 0 n B) (n + 2))), (11, vI (chk (wrp 31 35 n c) (wrp lock 0 n A) (wrp 0 0 n B) false (n + 2))), (12, vI (maA (wrp 31 35 n c) (wrp lock 0 n A) (wrp 0 0 n B) (n + 2) 0)), (13, vI (maE (wrp 31 35 n c) (wrp lock 0 n A) (wrp 0 0 n B) (n + 2) 0)), (14, vI (maF (wrp 31 35 n c) (wrp lock 0 n A) (wrp 0 0 n B) (n + 2) 0)), (34, .bool false), (51, .bool false), (91, .bool false)]) ⟨rfl, rfl, rfl, rfl, rfl, rfl, rfl, rfl, rfl, rfl, rfl, rfl, rfl, rfl, trivial⟩ ?_
            refine WC.no rfl ?_
            refine WC.skip ?_
            refine WQ.then ?_
            refine hK56 _ _ _ ?_
            refine WC.seq fun K58 hK58 => ?_
            refine WC.seq fun K59 hK59 => ?_
            refine WC.region ?_
            refine WL.pure (v := vI at') 92 rfl (Nat.le_of_ble_eq_true rfl) rfl rfl (by kernel_rfl) ?_
            by_cases ha : at' < 0
            ·
              refine WL.pure (v := .bool true) 93 rfl (Nat.le_of_ble_eq_true rfl) rfl rfl (x_lss rfl rfl rfl (dT (ha))) ?_
              refine WL.pure (v := .bool true) 94 rfl (Nat.le_of_ble_eq_true rfl) rfl rfl (by kernel_rfl) ?_
              refine WL.pass 95 rfl (Nat.le_of_ble_eq_true rfl) rfl ?_
              refine WL.pass 96 rfl (Nat.le_of_ble_eq_true rfl) rfl ?_
              refine WL.pass 97 rfl (Nat.le_of_ble_eq_true rfl) rfl ?_
              refine WL.pass 98 rfl (Nat.le_of_ble_eq_true rfl) rfl ?_
              refine WL.pure (v := .bool true) 99 rfl (Nat.le_of_ble_eq_true rfl) rfl rfl (by kernel_rfl) ?_
              refine WL.nil ?_
              refine WQ.then ?_
              refine hK59 _ _ _ ?_
              refine WC.sub (l' := [(0, .slice p n cap), (1, vI lock), (2, vI at'), (6, .bool false), (7, .slice qv (n + 2) cq), (8, vI (dpD c A B n)), (10, vI (dpD (wrp 31 35 n c) (wrp lock 0 n A) (wrp 0 0 n B) (n + 2))), (11, vI (chk (wrp 31 35 n c) (wrp lock 0 n A) (wrp 0 0 n B) false (n + 2))), (12, vI (maA (wrp 31 35 n c) (wrp lock 0 n A) (wrp 0 0 n B) (n + 2) 0)), (13, vI (maE (wrp 31 35 n c) (wrp lock 0 n A) (wrp 0 0 n B) (n + 2) 0)), (14, vI (maF (wrp 31 35 n c) (wrp lock 0 n A) (wrp 0 0 n B) (n + 2) 0)), (34, .bool false), (51, .bool false), (91, .bool false), (99, .bool true)]) ⟨rfl, rfl, rfl, rfl, rfl, rfl, rfl, rfl, rfl, rfl, rfl, rfl, rfl, rfl, rfl, trivial⟩ ?_
              refine WC.yes rfl ?_
              refine WC.seq fun K60 hK60 => ?_
              refine WC.region ?_
              refine WL.call (f := 14) (args := #[]) 100 rfl (Nat.le_of_ble_eq_true rfl) rfl rfl (by kernel_rfl) ?_
              refine (sane_any _).mono ?_
              rintro e w61 ⟨rfl, hb62⟩
              refine ⟨_, rfl, ?_⟩
              have hH63 : HP Tr w _ [.own (.slice qv (n + 2) cq) (n + 2) (insL (wrp 31 35 n c) (wrp lock 0 n A) (wrp 0 0 n B) (n + 2)) 23 3, .cel b31 #[vI 35, vI 0, vI 0] 23] := HP.call hH55 hb62
              refine WL.pure (v := .bool true) 6 rfl (Nat.le_of_ble_eq_true rfl) rfl rfl (by kernel_rfl) ?_
              refine WL.nil ?_
              refine WQ.then ?_
              refine hK60 _ _ _ ?_
              refine WC.ret ?_
              refine WQ.thenRet ?_
              refine WQ.ret1 6 rfl rfl ?_
              exact ⟨rfl, HP.below hH63⟩
            ·
              refine WL.pure (v := .bool false) 93 rfl (Nat.le_of_ble_eq_true rfl) rfl rfl (x_lss rfl rfl rfl (dF (ha))) ?_
              refine WL.pure (v := .bool false) 94 rfl (Nat.le_of_ble_eq_true rfl) rfl rfl (by kernel_rfl) ?_
              refine WL.pure (v := vI at') 95 rfl (Nat.le_of_ble_eq_true rfl) rfl rfl (by kernel_rfl) ?_
              refine WL.pure (v := .slice p n cap) 96 rfl (Nat.le_of_ble_eq_true rfl) rfl rfl (by kernel_rfl) ?_
              refine WL.pure (v := vI (n : Int)) 97 rfl (Nat.le_of_ble_eq_true rfl) rfl rfl (by kernel_rfl) ?_
              by_cases hb : (n : Int) ≤ at'
              ·
                refine WL.pure (v := .bool true) 98 rfl (Nat.le_of_ble_eq_true rfl) rfl rfl (x_geq rfl rfl rfl (dT (hb))) ?_
                refine WL.pure (v := .bool true) 99 rfl (Nat.le_of_ble_eq_true rfl) rfl rfl (by kernel_rfl) ?_
                refine WL.nil ?_
                refine WQ.then ?_
                refine hK59 _ _ _ ?_
                refine WC.sub (l' := [(0, .slice p n cap), (1, vI lock), (2, vI at'), (6, .bool false), (7, .slice qv (n + 2) cq), (8, vI (dpD c A B n)), (10, vI (dpD (wrp 31 35 n c) (wrp lock 0 n A) (wrp 0 0 n B) (n + 2))), (11, vI (chk (wrp 31 35 n c) (wrp lock 0 n A) (wrp 0 0 n B) false (n + 2))), (12, vI (maA (wrp 31 35 n c) (wrp lock 0 n A) (wrp 0 0 n B) (n + 2) 0)), (13, vI (maE (wrp 31 35 n c) (wrp lock 0 n A) (wrp 0 0 n B) (n + 2) 0)), (14, vI (maF (wrp 31 35 n c) (wrp lock 0 n A) (wrp 0 0 n B) (n + 2) 0)), (34, .bool false), (51, .bool false), (91, .bool false), (99, .bool true)]) ⟨rfl, rfl, rfl, rfl, rfl, rfl, rfl, rfl, rfl, rfl, rfl, rfl, rfl, rfl, rfl, trivial⟩ ?_
                refine WC.yes rfl ?_
                refine WC.seq fun K64 hK64 => ?_
                refine WC.region ?_
                refine WL.call (f := 14) (args := #[]) 100 rfl (Nat.le_of_ble_eq_true rfl) rfl rfl (by kernel_rfl) ?_
                refine (sane_any _).mono ?_
                rintro e w65 ⟨rfl, hb66⟩
                refine ⟨_, rfl, ?_⟩
                have hH67 : HP Tr w _ [.own (.slice qv (n + 2) cq) (n + 2) (insL (wrp 31 35 n c) (wrp lock 0 n A) (wrp 0 0 n B) (n + 2)) 23 3, .cel b31 #[vI 35, vI 0, vI 0] 23] := HP.call hH55 hb66
                refine WL.pure (v := .bool true) 6 rfl (Nat.le_of_ble_eq_true rfl) rfl rfl (by kernel_rfl) ?_
                refine WL.nil ?_
                refine WQ.then ?_
                refine hK64 _ _ _ ?_
                refine WC.ret ?_
                refine WQ.thenRet ?_
                refine WQ.ret1 6 rfl rfl ?_
                exact ⟨rfl, HP.below hH67⟩
              ·
                refine WL.pure (v := .bool false) 98 rfl (Nat.le_of_ble_eq_true rfl) rfl rfl (x_geq rfl rfl rfl (dF (hb))) ?_
                refine WL.pure (v := .bool false) 99 rfl (Nat.le_of_ble_eq_true rfl) rfl rfl (by kernel_rfl) ?_
                refine WL.nil ?_
                refine WQ.then ?_
                refine hK59 _ _ _ ?_
                refine WC.sub (l' := [(0, .slice p n cap), (1, vI lock), (2, vI at'), (6, .bool false), (7, .slice qv (n + 2) cq), (8, vI (dpD c A B n)), (10, vI (dpD (wrp 31 35 n c) (wrp lock 0 n A) (wrp 0 0 n B) (n + 2))), (11, vI (chk (wrp 31 35 n c) (wrp lock 0 n A) (wrp 0 0 n B) false (n + 2))), (12, vI (maA (wrp 31 35 n c) (wrp lock 0 n A) (wrp 0 0 n B) (n + 2) 0)), (13, vI (maE (wrp 31 35 n c) (wrp lock 0 n A) (wrp 0 0 n B) (n + 2) 0)), (14, vI (maF (wrp 31 35 n c) (wrp lock 0 n A) (wrp 0 0 n B) (n + 2) 0)), (34, .bool false), (51, .bool false), (91, .bool false), (99, .bool false)]) ⟨rfl, rfl, rfl, rfl, rfl, rfl, rfl, rfl, rfl, rfl, rfl, rfl, rfl, rfl, rfl, trivial⟩ ?_
                refine WC.no rfl ?_
                refine WC.skip ?_
                refine WQ.then ?_
                refine hK58 _ _ _ ?_
                refine WC.seq fun K68 hK68 => ?_
                obtain ⟨k, rfl⟩ : ∃ k : Nat, at' = (k : Int) := ⟨at'.toNat, by omega⟩
                obtain ⟨w1, w2⟩ := wrp_op (A := A) (B := B) (show n ≤ 118 by omega) (show 0 ≤ lock by omega) (show lock < 6 by omega) hck h6m (show k < n by omega)
                refine WC.region ?_
                refine WL.pure (v := .slice p n cap) 102 rfl (Nat.le_of_ble_eq_true rfl) rfl rfl (by kernel_rfl) ?_
                refine WL.pure (v := vI (k : Int)) 103 rfl (Nat.le_of_ble_eq_true rfl) rfl rfl (by kernel_rfl) ?_
                refine WL.call (f := 21) (args := #[.slice p n cap, vI (k : Int)]) 104 rfl (Nat.le_of_ble_eq_true rfl) rfl rfl (by kernel_rfl) ?_
                refine (Opener_any _ _ _ c A B _ _ (hR.inC.below (HP.below hH55)) (by omega) (by omega) (by omega)).mono ?_
                rintro e w69 ⟨rfl, hb70⟩
                refine ⟨_, rfl, ?_⟩
                have hH71 : HP Tr w _ [.own (.slice qv (n + 2) cq) (n + 2) (insL (wrp 31 35 n c) (wrp lock 0 n A) (wrp 0 0 n B) (n + 2)) 23 3, .cel b31 #[vI 35, vI 0, vI 0] 23] := HP.call hH55 hb70
                refine WL.pure (v := .tuple #[vI (opO c A B n (k : Int)), vI (opF c A B n (k : Int))]) 101 rfl (Nat.le_of_ble_eq_true rfl) rfl rfl (by kernel_rfl) ?_
                refine WL.pure (v := vI (opO c A B n (k : Int))) 105 rfl (Nat.le_of_ble_eq_true rfl) rfl rfl (by kernel_rfl) ?_
                refine WL.pure (v := vI (opF c A B n (k : Int))) 106 rfl (Nat.le_of_ble_eq_true rfl) rfl rfl (by kernel_rfl) ?_
                refine WL.pure (v := vI (opO c A B n (k : Int))) 15 rfl (Nat.le_of_ble_eq_true rfl) rfl rfl (by kernel_rfl) ?_
                refine WL.pure (v := vI (opF c A B n (k : Int))) 16 rfl (Nat.le_of_ble_eq_true rfl) rfl rfl (by kernel_rfl) ?_
                refine WL.nil ?_
                refine WQ.then ?_
                refine hK68 _ _ _ ?_
                refine WC.sub (l' := [(0, .slice p n cap), (1, vI lock), (2, vI (k : Int)), (6, .bool false), (7, .slice qv (n + 2) cq), (8, vI (dpD c A B n)), (10, vI (dpD (wrp 31 35 n c) (wrp lock 0 n A) (wrp 0 0 n B) (n + 2))), (11, vI (chk (wrp 31 35 n c) (wrp lock 0 n A) (wrp 0 0 n B) false (n + 2))), (12, vI (maA (wrp 31 35 n c) (wrp lock 0 n A) (wrp 0 0 n B) (n + 2) 0)), (13, vI (maE (wrp 31 35 n c) (wrp lock 0 n A) (wrp 0 0 n B) (n + 2) 0)), (14, vI (maF (wrp 31 35 n c) (wrp lock 0 n A) (wrp 0 0 n B) (n + 2) 0)), (15, vI (opO c A B n (k : Int))), (16, vI (opF c A B n (k : Int))), (34, .bool false), (51, .bool false), (91, .bool false), (99, .bool false)]) ⟨rfl, rfl, rfl, rfl, rfl, rfl, rfl, rfl, rfl, rfl, rfl, rfl, rfl, rfl, rfl, rfl, rfl, trivial⟩ ?_
                refine WC.seq fun K72 hK72 => ?_
                refine WC.region ?_
                refine WL.pure (v := .slice qv (n + 2) cq) 108 rfl (Nat.le_of_ble_eq_true rfl) rfl rfl (by kernel_rfl) ?_
                refine WL.pure (v := vI (k : Int)) 109 rfl (Nat.le_of_ble_eq_true rfl) rfl rfl (by kernel_rfl) ?_
                refine WL.pure (v := vI ((k : Int) + 1)) 110 rfl (Nat.le_of_ble_eq_true rfl) rfl rfl (x_add (Z := (k : Int) + 1) rfl rfl rfl (by omega) (by omega) (by omega)) ?_
                refine WL.call (f := 21) (args := #[.slice qv (n + 2) cq, vI ((k : Int) + 1)]) 111 rfl (Nat.le_of_ble_eq_true rfl) rfl rfl (by kernel_rfl) ?_
                refine (Opener_any _ _ _ (wrp 31 35 n c) (wrp lock 0 n A) (wrp 0 0 n B) _ _ ((own_rowIn (HP.get hH71 0 rfl)).inC) (by omega) (by omega) (by omega)).mono ?_
                rintro e w73 ⟨rfl, hb74⟩
                refine ⟨_, rfl, ?_⟩
                have hH75 : HP Tr w _ [.own (.slice qv (n + 2) cq) (n + 2) (insL (wrp 31 35 n c) (wrp lock 0 n A) (wrp 0 0 n B) (n + 2)) 23 3, .cel b31 #[vI 35, vI 0, vI 0] 23] := HP.call hH71 hb74
                refine WL.pure (v := .tuple #[vI (opO (wrp 31 35 n c) (wrp lock 0 n A) (wrp 0 0 n B) (n + 2) ((k : Int) + 1)), vI (opF (wrp 31 35 n c) (wrp lock 0 n A) (wrp 0 0 n B) (n + 2) ((k : Int) + 1))]) 107 rfl (Nat.le_of_ble_eq_true rfl) rfl rfl (by kernel_rfl) ?_
                refine WL.pure (v := vI (opO (wrp 31 35 n c) (wrp lock 0 n A) (wrp 0 0 n B) (n + 2) ((k : Int) + 1))) 112 rfl (Nat.le_of_ble_eq_true rfl) rfl rfl (by kernel_rfl) ?_
                refine WL.pure (v := vI (opF (wrp 31 35 n c) (wrp lock 0 n A) (wrp 0 0 n B) (n + 2) ((k : Int) + 1))) 113 rfl (Nat.le_of_ble_eq_true rfl) rfl rfl (by kernel_rfl) ?_
                refine WL.pure (v := vI (opO (wrp 31 35 n c) (wrp lock 0 n A) (wrp 0 0 n B) (n + 2) ((k : Int) + 1))) 17 rfl (Nat.le_of_ble_eq_true rfl) rfl rfl (by kernel_rfl) ?_
                refine WL.pure (v := vI (opF (wrp 31 35 n c) (wrp lock 0 n A) (wrp 0 0 n B) (n + 2) ((k : Int) + 1))) 18 rfl (Nat.le_of_ble_eq_true rfl) rfl rfl (by kernel_rfl) ?_
                refine WL.nil ?_
                refine WQ.then ?_
                refine hK72 _ _ _ ?_
                refine WC.sub (l' := [(0, .slice p n cap), (1, vI lock), (2, vI (k : Int)), (6, .bool false), (7, .slice qv (n + 2) cq), (8, vI (dpD c A B n)), (10, vI (dpD (wrp 31 35 n c) (wrp lock 0 n A) (wrp 0 0 n B) (n + 2))), (11, vI (chk (wrp 31 35 n c) (wrp lock 0 n A) (wrp 0 0 n B) false (n + 2))), (12, vI (maA (wrp 31 35 n c) (wrp lock 0 n A) (wrp 0 0 n B) (n + 2) 0)), (13, vI (maE (wrp 31 35 n c) (wrp lock 0 n A) (wrp 0 0 n B) (n + 2) 0)), (14, vI (maF (wrp 31 35 n c) (wrp lock 0 n A) (wrp 0 0 n B) (n + 2) 0)), (15, vI (opO c A B n (k : Int))), (16, vI (opF c A B n (k : Int))), (17, vI (opO (wrp 31 35 n c) (wrp lock 0 n A) (wrp 0 0 n B) (n + 2) ((k : Int) + 1))), (18, vI (opF (wrp 31 35 n c) (wrp lock 0 n A) (wrp 0 0 n B) (n + 2) ((k : Int) + 1))), (34, .bool false), (51, .bool false), (91, .bool false), (99, .bool false)]) ⟨rfl, rfl, rfl, rfl, rfl, rfl, rfl, rfl, rfl, rfl, rfl, rfl, rfl, rfl, rfl, rfl, rfl, rfl, rfl, trivial⟩ ?_
                refine WC.seq fun K76 hK76 => ?_
                refine WC.seq fun K77 hK77 => ?_
                refine WC.region ?_
                refine WL.pure (v := vI (opF c A B n (k : Int))) 114 rfl (Nat.le_of_ble_eq_true rfl) rfl rfl (by kernel_rfl) ?_
                by_cases h3 : opF c A B n (k : Int) = 3
                ·
                  have w3 : opO (wrp 31 35 n c) (wrp lock 0 n A) (wrp 0 0 n B) (n + 2) ((k : Int) + 1) = 0 := by
                    rcases w2 with ⟨_, q⟩ | ⟨q, _⟩
                    · exact q
                    · omega
                  refine WL.pure (v := .bool true) 115 rfl (Nat.le_of_ble_eq_true rfl) rfl rfl (x_eql rfl rfl rfl (dT (h3))) ?_
                  refine WL.nil ?_
                  refine WQ.then ?_
                  refine hK77 _ _ _ ?_
                  refine WC.yes rfl ?_
                  refine WC.seq fun K78 hK78 => ?_
                  refine WC.region ?_
                  refine WL.pure (v := vI (opO (wrp 31 35 n c) (wrp lock 0 n A) (wrp 0 0 n B) (n + 2) ((k : Int) + 1))) 116 rfl (Nat.le_of_ble_eq_true rfl) rfl rfl (by kernel_rfl) ?_
                  refine WL.pure (v := .bool true) 117 rfl (Nat.le_of_ble_eq_true rfl) rfl rfl (x_eql rfl rfl rfl (dT (w3))) ?_
                  refine WL.pure (v := .bool true) 118 rfl (Nat.le_of_ble_eq_true rfl) rfl rfl (by kernel_rfl) ?_
                  refine WL.pure (v := vI (opF (wrp 31 35 n c) (wrp lock 0 n A) (wrp 0 0 n B) (n + 2) ((k : Int) + 1))) 119 rfl (Nat.le_of_ble_eq_true rfl) rfl rfl (by kernel_rfl) ?_
                  refine WL.pure (v := .bool true) 120 rfl (Nat.le_of_ble_eq_true rfl) rfl rfl (x_eql rfl rfl rfl (dT (w1))) ?_
                  refine WL.pure (v := .bool true) 121 rfl (Nat.le_of_ble_eq_true rfl) rfl rfl (by kernel_rfl) ?_
                  refine WL.pure (v := .bool true) 122 rfl (Nat.le_of_ble_eq_true rfl) rfl rfl (by kernel_rfl) ?_
                  refine WL.call (f := 14) (args := #[]) 123 rfl (Nat.le_of_ble_eq_true rfl) rfl rfl (by kernel_rfl) ?_
                  refine (sane_any _).mono ?_
                  rintro e w79 ⟨rfl, hb80⟩
                  refine ⟨_, rfl, ?_⟩
                  have hH81 : HP Tr w _ [.own (.slice qv (n + 2) cq) (n + 2) (insL (wrp 31 35 n c) (wrp lock 0 n A) (wrp 0 0 n B) (n + 2)) 23 3, .cel b31 #[vI 35, vI 0, vI 0] 23] := HP.call hH75 hb80
                  refine WL.pure (v := .bool true) 124 rfl (Nat.le_of_ble_eq_true rfl) rfl rfl (by kernel_rfl) ?_
                  refine WL.pure (v := .bool true) 6 rfl (Nat.le_of_ble_eq_true rfl) rfl rfl (by kernel_rfl) ?_
                  refine WL.nil ?_
                  refine WQ.then ?_
                  refine hK78 _ _ _ ?_
                  refine WC.sub (l' := [(0, .slice p n cap), (1, vI lock), (2, vI (k : Int)), (6, .bool true), (7, .slice qv (n + 2) cq), (8, vI (dpD c A B n)), (10, vI (dpD (wrp 31 35 n c) (wrp lock 0 n A) (wrp 0 0 n B) (n + 2))), (11, vI (chk (wrp 31 35 n c) (wrp lock 0 n A) (wrp 0 0 n B) false (n + 2))), (12, vI (maA (wrp 31 35 n c) (wrp lock 0 n A) (wrp 0 0 n B) (n + 2) 0)), (13, vI (maE (wrp 31 35 n c) (wrp lock 0 n A) (wrp 0 0 n B) (n + 2) 0)), (14, vI (maF (wrp 31 35 n c) (wrp lock 0 n A) (wrp 0 0 n B) (n + 2) 0)), (15, vI (opO c A B n (k : Int))), (16, vI (opF c A B n (k : Int))), (17, vI (opO (wrp 31 35 n c) (wrp lock 0 n A) (wrp 0 0 n B) (n + 2) ((k : Int) + 1))), (18, vI (opF (wrp 31 35 n c) (wrp lock 0 n A) (wrp 0 0 n B) (n + 2) ((k : Int) + 1))), (34, .bool false), (51, .bool false), (91, .bool false), (99, .bool false), (115, .bool true)]) ⟨rfl, rfl, rfl, rfl, rfl, rfl, rfl, rfl, rfl, rfl, rfl, rfl, rfl, rfl, rfl, rfl, rfl, rfl, rfl, rfl, trivial⟩ ?_
                  refine WC.ret ?_
                  refine WQ.thenRet ?_
                  refine WQ.ret1 6 rfl rfl ?_
                  exact ⟨rfl, HP.below hH81⟩
                ·
                  obtain ⟨v1, v2, v3, v4⟩ : opF c A B n (k : Int) = 0 ∧ 0 ≤ opO c A B n (k : Int) ∧ opO c A B n (k : Int) < n ∧ opO (wrp 31 35 n c) (wrp lock 0 n A) (wrp 0 0 n B) (n + 2) ((k : Int) + 1) = opO c A B n (k : Int) + 1 := by
                    rcases w2 with ⟨q, _⟩ | q
                    · exact absurd q h3
                    · exact q
                  refine WL.pure (v := .bool false) 115 rfl (Nat.le_of_ble_eq_true rfl) rfl rfl (x_eql rfl rfl rfl (dF (h3))) ?_
                  refine WL.nil ?_
                  refine WQ.then ?_
                  refine hK77 _ _ _ ?_
                  refine WC.no rfl ?_
                  refine WC.skip ?_
                  refine WQ.then ?_
                  refine hK76 _ _ _ ?_
                  refine WC.seq fun K82 hK82 => ?_
                  refine WC.region ?_
                  refine WL.pure (v := vI (opF c A B n (k : Int))) 125 rfl (Nat.le_of_ble_eq_true rfl) rfl rfl (by kernel_rfl) ?_
                  refine WL.pure (v := .bool true) 126 rfl (Nat.le_of_ble_eq_true rfl) rfl rfl (x_eql rfl rfl rfl (dT (v1))) ?_
                  refine WL.pure (v := .bool true) 127 rfl (Nat.le_of_ble_eq_true rfl) rfl rfl (by kernel_rfl) ?_
                  refine WL.pure (v := vI (opF (wrp 31 35 n c) (wrp lock 0 n A) (wrp 0 0 n B) (n + 2) ((k : Int) + 1))) 128 rfl (Nat.le_of_ble_eq_true rfl) rfl rfl (by kernel_rfl) ?_
                  refine WL.pure (v := .bool true) 129 rfl (Nat.le_of_ble_eq_true rfl) rfl rfl (x_eql rfl rfl rfl (dT (w1))) ?_
                  refine WL.pure (v := .bool true) 130 rfl (Nat.le_of_ble_eq_true rfl) rfl rfl (by kernel_rfl) ?_
                  refine WL.pure (v := .bool true) 131 rfl (Nat.le_of_ble_eq_true rfl) rfl rfl (by kernel_rfl) ?_
                  refine WL.pure (v := vI (opO (wrp 31 35 n c) (wrp lock 0 n A) (wrp 0 0 n B) (n + 2) ((k : Int) + 1))) 132 rfl (Nat.le_of_ble_eq_true rfl) rfl rfl (by kernel_rfl) ?_
                  refine WL.pure (v := vI (opO c A B n (k : Int))) 133 rfl (Nat.le_of_ble_eq_true rfl) rfl rfl (by kernel_rfl) ?_
                  refine WL.pure (v := vI (opO c A B n (k : Int) + 1)) 134 rfl (Nat.le_of_ble_eq_true rfl) rfl rfl (x_add (Z := opO c A B n (k : Int) + 1) rfl rfl rfl (by omega) (by omega) (by omega)) ?_
                  refine WL.pure (v := .bool true) 135 rfl (Nat.le_of_ble_eq_true rfl) rfl rfl (x_eql rfl rfl rfl (dT (v4))) ?_
                  refine WL.pure (v := .bool true) 136 rfl (Nat.le_of_ble_eq_true rfl) rfl rfl (by kernel_rfl) ?_
                  refine WL.pure (v := .bool true) 137 rfl (Nat.le_of_ble_eq_true rfl) rfl rfl (by kernel_rfl) ?_
                  refine WL.call (f := 14) (args := #[]) 138 rfl (Nat.le_of_ble_eq_true rfl) rfl rfl (by kernel_rfl) ?_
                  refine (sane_any _).mono ?_
                  rintro e w83 ⟨rfl, hb84⟩
                  refine ⟨_, rfl, ?_⟩
                  have hH85 : HP Tr w _ [.own (.slice qv (n + 2) cq) (n + 2) (insL (wrp 31 35 n c) (wrp lock 0 n A) (wrp 0 0 n B) (n + 2)) 23 3, .cel b31 #[vI 35, vI 0, vI 0] 23] := HP.call hH75 hb84
                  refine WL.pure (v := .bool true) 139 rfl (Nat.le_of_ble_eq_true rfl) rfl rfl (by kernel_rfl) ?_
                  refine WL.pure (v := .bool true) 6 rfl (Nat.le_of_ble_eq_true rfl) rfl rfl (by kernel_rfl) ?_
                  refine WL.nil ?_
                  refine WQ.then ?_
                  refine hK82 _ _ _ ?_
                  refine WC.sub (l' := [(0, .slice p n cap), (1, vI lock), (2, vI (k : Int)), (6, .bool true), (7, .slice qv (n + 2) cq), (8, vI (dpD c A B n)), (10, vI (dpD (wrp 31 35 n c) (wrp lock 0 n A) (wrp 0 0 n B) (n + 2))), (11, vI (chk (wrp 31 35 n c) (wrp lock 0 n A) (wrp 0 0 n B) false (n + 2))), (12, vI (maA (wrp 31 35 n c) (wrp lock 0 n A) (wrp 0 0 n B) (n + 2) 0)), (13, vI (maE (wrp 31 35 n c) (wrp lock 0 n A) (wrp 0 0 n B) (n + 2) 0)), (14, vI (maF (wrp 31 35 n c) (wrp lock 0 n A) (wrp 0 0 n B) (n + 2) 0)), (15, vI (opO c A B n (k : Int))), (16, vI (opF c A B n (k : Int))), (17, vI (opO (wrp 31 35 n c) (wrp lock 0 n A) (wrp 0 0 n B) (n + 2) ((k : Int) + 1))), (18, vI (opF (wrp 31 35 n c) (wrp lock 0 n A) (wrp 0 0 n B) (n + 2) ((k : Int) + 1))), (34, .bool false), (51, .bool false), (91, .bool false), (99, .bool false), (115, .bool false)]) ⟨rfl, rfl, rfl, rfl, rfl, rfl, rfl, rfl, rfl, rfl, rfl, rfl, rfl, rfl, rfl, rfl, rfl, rfl, rfl, rfl, trivial⟩ ?_
                  refine WC.ret ?_
                  refine WQ.ret1 6 rfl rfl ?_
                  exact ⟨rfl, HP.below hH85⟩

theorem own : ownKnob Try.prog.godebug = none := by kernel_rfl
theorem laidOut : laidOutB Try.prog = true := by kernel_rfl

set_option maxRecDepth 100000 in
theorem lifted (os : Os) (started : os.Started) (H : Type) (enc : TypeId × Value → H) :
    ReturnsInHanded {} Try.checked os 7 .any (Rows.codeWrappedSpec.pre6 enc Try.prog Try.f7 Rows.codeWrappedRow.domain false) (Rows.codeWrappedSpec.post enc Try.prog Try.f7 false true false false) := by
  refine returnsInHanded_of_change (C := Try.checked) own started (by kernel_rfl) Try.func7
    (ChangeSpec.witness6 (enc := enc) (C := Try.checked) false ⟨#[], #[.slice none 0 0, .int .i64 0, .int .i64 0], []⟩ 8 (by kernel_rfl) (by kernel_rfl) (by kernel_rfl) (by kernel_rfl)) ?_
  intro W base args ds gs before hval0 hW hcnd _
  have hval : ∀ (j : Nat) t v, Try.f7.params[j]? = some t → args[j]? = some v → Value.okWide Try.prog W .any base t v := hval0
  have hW' := hW
  obtain ⟨p, q, hA0, hV, rfl, hfz, hnd⟩ := hW
  have hA : DataW.TrodAll enc Try.prog W 0 (fun _ => true) true Try.f7.params.toList args.toList ds p := hA0
  rw [Try.params7] at hA hval
  obtain ⟨v0, vs0, d0, ds0, p0, q0, hargs, rfl, rfl, h0, r0⟩ := trodAll_cons hA
  obtain ⟨v1, vs1, d1, ds1, p1, q1, rfl, rfl, rfl, h1, r1⟩ := trodAll_cons r0
  obtain ⟨v2, vs2, d2, ds2, p2, q2, rfl, rfl, rfl, h2, r2⟩ := trodAll_cons r1
  obtain ⟨rfl, rfl, rfl⟩ := trodAll_nil r2
  obtain rfl : args = #[v0, v1, v2] := by cases args; simp_all
  obtain ⟨rfl, rfl⟩ := trodVars_none hV
  have k0 := h0
  have lt0 : ∀ x ∈ p0, x.block < W.heap.size := by obtain ⟨m, hm⟩ := k0; exact DataW.trod_lt m _ _ _ hm
  obtain ⟨b0, n0, cap0, rfl⟩ := okWide_slice Try.underlying30 (hval 0 30 v0 rfl rfl)
  obtain ⟨c0, A0, B0, hrow0⟩ := rows3 h0 lt0
  obtain ⟨a1, rfl, rfl, rfl, w1⟩ := open_int Try.underlying3 (hval 1 3 v1 rfl rfl) h1
  obtain ⟨a2, rfl, rfl, rfl, w2⟩ := open_int Try.underlying3 (hval 2 3 v2 rfl rfl) h2
  clear hA0 hval0
  refine (walk b0 n0 cap0 c0 A0 B0 a1 a2 W hrow0 w1 w2).mono fun e W' ⟨he, bel⟩ => ?_
  subst he
  exact ⟨_, rfl, _, _, _, [], _, [], hW', trodAll_mk1 (shut_bool Try.underlying4 _), (trodAll_cons_mk (Below.trod laidOut (by kernel_rfl) (of_decide_eq_true (by kernel_rfl)) k0 bel lt0) (trodAll_cons_mk (shut_int Try.underlying3 w1) (trodAll_cons_mk (shut_int Try.underlying3 w2) trodAll_mk0))), rfl, bel.frame _, fun h => by cases h⟩

theorem over : Rows.codeWrappedRow.holds Try.pinned (OpenSpec.ofChange Rows.codeWrappedSpec) :=
  OpenClaim.holds_of_wide 7 Try.f7 rfl rfl rfl rfl rfl rfl rfl ⟨rfl, rfl, rfl, rfl, rfl⟩ rfl rfl rfl rfl rfl (by kernel_rfl) Try.func7 (by kernel_rfl)
    (of_decide_eq_true (by kernel_rfl)) (by unfold Func.isWrapper; first | (rw [if_pos (by decide +kernel)]; kernel_rfl) | (rw [if_neg (by decide +kernel)]; exact ⟨rfl, rfl⟩))
    (fun os started H enc _ => lifted os started H enc)

/-- the statement -/
theorem proved : Rows.CodeWrappedSaid := over
end Go.Proofs.Yteeljnlepbnhkaa.codeWrapped
