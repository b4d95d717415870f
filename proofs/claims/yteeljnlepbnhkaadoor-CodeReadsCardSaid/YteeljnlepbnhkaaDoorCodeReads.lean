/-
  The statement CodeReads: Parse is that of the reference, for all texts; what is read is written, and read again.
  Conditions: none beyond those of the given row.
-/
import Derived.Test.YteeljnlepbnhkaaDoorCards
import Derived.Test.YteeljnlepbnhkaaDoorPG
import Derived.Test.YteeljnlepbnhkaaDoorTie
import Derived.SevenTiedAt
import Derived.Lib.LaidTab
import Derived.LaidMore
import Derived.Stop.Joined
import Derived.Stop.LaidErr
import Derived.ProofKit
import Derived.OpenShut
import Derived.ShutString
import Derived.ChangeOld
import Derived.Lib.SmallJoins
set_option linter.unusedVariables false
set_option linter.unusedSimpArgs false
namespace Go.Proofs.YteeljnlepbnhkaaDoor.codeReads
open Go.ChangeShapes Go.WideShapes Go.ChangeAt Go.RowKit Go.Joins
open Go.ChangeMaps (open_string shut_string)
open Cw Ec Qa Fw

set_option maxRecDepth 20000 in
set_option maxHeartbeats 4000000 in
theorem walk (s : ByteArray) (w : World) (hz : s.size ≤ 281474976710656) (hE : Ev w) :
    Calls Tryd.prog 4 #[.string s] w fun e w' => e = .returned (.bool true) ∧ Below w.heap.size w w' := by
  obtain ⟨l, rfl⟩ := eq_bS s
  refine calls_of Tryd.func4 rfl (m := 74) rfl [(0, .string (bS l))] (Fr_enter [.string (bS l)] 74 (Nat.le_of_ble_eq_true rfl)) ?_
  have hH1 : HP Tr w w [] := HP.refl w
  refine WC.seq fun K2 hK2 => ?_
  refine WC.region ?_
  refine WL.pure (v := .bool false) 2 rfl (Nat.le_of_ble_eq_true rfl) rfl rfl (by kernel_rfl) ?_
  refine WL.nil ?_
  refine WQ.then ?_
  refine hK2 _ _ _ ?_
  refine WC.seq fun K3 hK3 => ?_
  refine WC.seq fun K4 hK4 => ?_
  refine WC.region ?_
  refine WL.pure (v := .string (bS l)) 14 rfl (Nat.le_of_ble_eq_true rfl) rfl rfl (by kernel_rfl) ?_
  refine WL.pure (v := vI (l.length : Int)) 15 rfl (Nat.le_of_ble_eq_true rfl) rfl rfl (x_slen (l) rfl rfl rfl Tryd.underlying9) ?_
  by_cases hl : (4000 : Int) < (l.length : Int)
  ·
    refine WL.pure (v := .bool true) 16 rfl (Nat.le_of_ble_eq_true rfl) rfl rfl (x_gtr rfl rfl rfl (dT (hl))) ?_
    refine WL.nil ?_
    refine WQ.then ?_
    refine hK4 _ _ _ ?_
    refine WC.yes rfl ?_
    refine WC.seq fun K5 hK5 => ?_
    refine WC.region ?_
    refine WL.call (f := 5) (args := #[]) 17 rfl (Nat.le_of_ble_eq_true rfl) rfl rfl (by kernel_rfl) ?_
    refine (sane_any _).mono ?_
    rintro e w6 ⟨rfl, hb7⟩
    refine ⟨_, rfl, ?_⟩
    have hH8 : HP Tr w _ [] := HP.call hH1 hb7
    refine WL.pure (v := .bool true) 2 rfl (Nat.le_of_ble_eq_true rfl) rfl rfl (by kernel_rfl) ?_
    refine WL.nil ?_
    refine WQ.then ?_
    refine hK5 _ _ _ ?_
    refine WC.ret ?_
    refine WQ.thenRet ?_
    refine WQ.ret1 2 rfl rfl ?_
    exact ⟨rfl, HP.below hH8⟩
  ·
    refine WL.pure (v := .bool false) 16 rfl (Nat.le_of_ble_eq_true rfl) rfl rfl (x_gtr rfl rfl rfl (dF (hl))) ?_
    refine WL.nil ?_
    refine WQ.then ?_
    refine hK4 _ _ _ ?_
    refine WC.no rfl ?_
    refine WC.skip ?_
    refine WQ.then ?_
    refine hK3 _ _ _ ?_
    refine WC.seq fun K9 hK9 => ?_
    refine WC.region ?_
    refine WL.pure (v := .string (bS l)) 19 rfl (Nat.le_of_ble_eq_true rfl) rfl rfl (by kernel_rfl) ?_
    refine WL.call (f := 8) (args := #[.string (bS l)]) 20 rfl (Nat.le_of_ble_eq_true rfl) rfl rfl (by kernel_rfl) ?_
    refine (Parse_any l _ (by omega) (hE.below (HP.below hH1))).mono ?_
    rintro e w3 (⟨ln, hX, rfl, hb⟩ | ⟨T, hX, hT, rfl, hb⟩ | ⟨T, pv, cp, hX, hT, rfl, hb⟩)
    ·
      refine ⟨_, rfl, ?_⟩
      have hH10 : HP Tr w _ [] := HP.call hH1 hb
      refine WL.pure (v := .tuple #[.slice none 0 0, vI (ln : Int), vI 4]) 18 rfl (Nat.le_of_ble_eq_true rfl) rfl rfl (by kernel_rfl) ?_
      refine WL.pure (v := .slice none 0 0) 21 rfl (Nat.le_of_ble_eq_true rfl) rfl rfl (by kernel_rfl) ?_
      refine WL.pure (v := vI (ln : Int)) 22 rfl (Nat.le_of_ble_eq_true rfl) rfl rfl (by kernel_rfl) ?_
      refine WL.pure (v := vI 4) 23 rfl (Nat.le_of_ble_eq_true rfl) rfl rfl (by kernel_rfl) ?_
      refine WL.pure (v := .slice none 0 0) 3 rfl (Nat.le_of_ble_eq_true rfl) rfl rfl (by kernel_rfl) ?_
      refine WL.pure (v := vI (ln : Int)) 4 rfl (Nat.le_of_ble_eq_true rfl) rfl rfl (by kernel_rfl) ?_
      refine WL.pure (v := vI 4) 5 rfl (Nat.le_of_ble_eq_true rfl) rfl rfl (by kernel_rfl) ?_
      refine WL.nil ?_
      refine WQ.then ?_
      refine hK9 _ _ _ ?_
      refine WC.sub (l' := [(0, .string (bS l)), (2, .bool false), (3, .slice none 0 0), (4, vI (ln : Int)), (5, vI 4), (16, .bool false)]) ⟨rfl, rfl, rfl, rfl, rfl, rfl, trivial⟩ ?_
      refine WC.seq fun K11 hK11 => ?_
      refine WC.region ?_
      refine WL.pure (v := .string (bS l)) 25 rfl (Nat.le_of_ble_eq_true rfl) rfl rfl (by kernel_rfl) ?_
      refine WL.call (f := 10) (args := #[.string (bS l)]) 26 rfl (Nat.le_of_ble_eq_true rfl) rfl rfl (by kernel_rfl) ?_
      refine (rParse_any l _ (by omega) (hE.below (HP.below hH10))).mono ?_
      rintro e w4 (⟨ln4, hX4, rfl, hb4⟩ | ⟨T4, hX4, hT4, rfl, hb4⟩ | ⟨T4, pv4, cp4, hX4, hT4, rfl, hb4⟩) <;> rw [hX] at hX4 <;> cases hX4
      refine ⟨_, rfl, ?_⟩
      have hH12 : HP Tr w _ [] := HP.call hH10 hb4
      refine WL.pure (v := .tuple #[.slice none 0 0, vI (ln : Int), vI 4]) 24 rfl (Nat.le_of_ble_eq_true rfl) rfl rfl (by kernel_rfl) ?_
      refine WL.pure (v := .slice none 0 0) 27 rfl (Nat.le_of_ble_eq_true rfl) rfl rfl (by kernel_rfl) ?_
      refine WL.pure (v := vI (ln : Int)) 28 rfl (Nat.le_of_ble_eq_true rfl) rfl rfl (by kernel_rfl) ?_
      refine WL.pure (v := vI 4) 29 rfl (Nat.le_of_ble_eq_true rfl) rfl rfl (by kernel_rfl) ?_
      refine WL.pure (v := .slice none 0 0) 6 rfl (Nat.le_of_ble_eq_true rfl) rfl rfl (by kernel_rfl) ?_
      refine WL.pure (v := vI (ln : Int)) 7 rfl (Nat.le_of_ble_eq_true rfl) rfl rfl (by kernel_rfl) ?_
      refine WL.pure (v := vI 4) 8 rfl (Nat.le_of_ble_eq_true rfl) rfl rfl (by kernel_rfl) ?_
      refine WL.nil ?_
      refine WQ.then ?_
      refine hK11 _ _ _ ?_
      refine WC.sub (l' := [(0, .string (bS l)), (2, .bool false), (3, .slice none 0 0), (4, vI (ln : Int)), (5, vI 4), (6, .slice none 0 0), (7, vI (ln : Int)), (8, vI 4), (16, .bool false)]) ⟨rfl, rfl, rfl, rfl, rfl, rfl, rfl, rfl, rfl, trivial⟩ ?_
      refine WC.seq fun K13 hK13 => ?_
      refine WC.seq fun K14 hK14 => ?_
      refine WC.region ?_
      refine WL.pure (v := .slice none 0 0) 30 rfl (Nat.le_of_ble_eq_true rfl) rfl rfl (by kernel_rfl) ?_
      refine WL.pure (v := .slice none 0 0) 31 rfl (Nat.le_of_ble_eq_true rfl) rfl rfl (by kernel_rfl) ?_
      refine WL.call (f := 9) (args := #[.slice none 0 0, .slice none 0 0]) 32 rfl (Nat.le_of_ble_eq_true rfl) rfl rfl (by kernel_rfl) ?_
      refine (Same_any none none 0 0 0 (fun _ => 0) (fun _ => 0) (fun _ => 0) _ (fun h => absurd h (by omega)) (fun h => absurd h (by omega)) (by omega)).mono ?_
      rintro e w15 ⟨rfl, hb16⟩
      refine ⟨_, rfl, ?_⟩
      have hH17 : HP Tr w _ [] := HP.call hH12 hb16
      refine WL.pure (v := .bool false) 33 rfl (Nat.le_of_ble_eq_true rfl) rfl rfl (by kernel_rfl) ?_
      refine WL.pure (v := .bool false) 34 rfl (Nat.le_of_ble_eq_true rfl) rfl rfl (by kernel_rfl) ?_
      refine WL.pure (v := vI (ln : Int)) 35 rfl (Nat.le_of_ble_eq_true rfl) rfl rfl (by kernel_rfl) ?_
      refine WL.pure (v := vI (ln : Int)) 36 rfl (Nat.le_of_ble_eq_true rfl) rfl rfl (by kernel_rfl) ?_
      refine WL.pure (v := .bool false) 37 rfl (Nat.le_of_ble_eq_true rfl) rfl rfl (x_neq rfl rfl rfl (dF (fun h => h rfl))) ?_
      refine WL.pure (v := .bool false) 38 rfl (Nat.le_of_ble_eq_true rfl) rfl rfl (by kernel_rfl) ?_
      refine WL.pure (v := .bool false) 39 rfl (Nat.le_of_ble_eq_true rfl) rfl rfl (by kernel_rfl) ?_
      refine WL.pure (v := vI 4) 40 rfl (Nat.le_of_ble_eq_true rfl) rfl rfl (by kernel_rfl) ?_
      refine WL.pure (v := vI 4) 41 rfl (Nat.le_of_ble_eq_true rfl) rfl rfl (by kernel_rfl) ?_
      refine WL.pure (v := .bool false) 42 rfl (Nat.le_of_ble_eq_true rfl) rfl rfl (x_neq rfl rfl rfl (by decide)) ?_
      refine WL.pure (v := .bool false) 43 rfl (Nat.le_of_ble_eq_true rfl) rfl rfl (by kernel_rfl) ?_
      refine WL.nil ?_
      refine WQ.then ?_
      refine hK14 _ _ _ ?_
      refine WC.sub (l' := [(0, .string (bS l)), (2, .bool false), (3, .slice none 0 0), (4, vI (ln : Int)), (5, vI 4), (6, .slice none 0 0), (7, vI (ln : Int)), (8, vI 4), (16, .bool false), (43, .bool false)]) ⟨rfl, rfl, rfl, rfl, rfl, rfl, rfl, rfl, rfl, rfl, trivial⟩ ?_
      refine WC.no rfl ?_
      refine WC.skip ?_
      refine WQ.then ?_
      refine hK13 _ _ _ ?_
      refine WC.seq fun K18 hK18 => ?_
      refine WC.seq fun K19 hK19 => ?_
      refine WC.region ?_
      refine WL.pure (v := vI 4) 44 rfl (Nat.le_of_ble_eq_true rfl) rfl rfl (by kernel_rfl) ?_
      refine WL.pure (v := .bool false) 45 rfl (Nat.le_of_ble_eq_true rfl) rfl rfl (x_eql rfl rfl rfl (by decide)) ?_
      refine WL.nil ?_
      refine WQ.then ?_
      refine hK19 _ _ _ ?_
      refine WC.no rfl ?_
      refine WC.skip ?_
      refine WQ.then ?_
      refine hK18 _ _ _ ?_
      refine WC.seq fun K20 hK20 => ?_
      refine WC.region ?_
      refine WL.call (f := 5) (args := #[]) 73 rfl (Nat.le_of_ble_eq_true rfl) rfl rfl (by kernel_rfl) ?_
      refine (sane_any _).mono ?_
      rintro e w21 ⟨rfl, hb22⟩
      refine ⟨_, rfl, ?_⟩
      have hH23 : HP Tr w _ [] := HP.call hH17 hb22
      refine WL.pure (v := .bool true) 2 rfl (Nat.le_of_ble_eq_true rfl) rfl rfl (by kernel_rfl) ?_
      refine WL.nil ?_
      refine WQ.then ?_
      refine hK20 _ _ _ ?_
      refine WC.ret ?_
      refine WQ.ret1 2 rfl rfl ?_
      exact ⟨rfl, HP.below hH23⟩
    ·
      refine ⟨_, rfl, ?_⟩
      have hH24 : HP Tr w _ [] := HP.call hH1 hb
      refine WL.pure (v := .tuple #[.slice none 0 0, vI 0, vI (chkT T)]) 18 rfl (Nat.le_of_ble_eq_true rfl) rfl rfl (by kernel_rfl) ?_
      refine WL.pure (v := .slice none 0 0) 21 rfl (Nat.le_of_ble_eq_true rfl) rfl rfl (by kernel_rfl) ?_
      refine WL.pure (v := vI 0) 22 rfl (Nat.le_of_ble_eq_true rfl) rfl rfl (by kernel_rfl) ?_
      refine WL.pure (v := vI (chkT T)) 23 rfl (Nat.le_of_ble_eq_true rfl) rfl rfl (by kernel_rfl) ?_
      refine WL.pure (v := .slice none 0 0) 3 rfl (Nat.le_of_ble_eq_true rfl) rfl rfl (by kernel_rfl) ?_
      refine WL.pure (v := vI 0) 4 rfl (Nat.le_of_ble_eq_true rfl) rfl rfl (by kernel_rfl) ?_
      refine WL.pure (v := vI (chkT T)) 5 rfl (Nat.le_of_ble_eq_true rfl) rfl rfl (by kernel_rfl) ?_
      refine WL.nil ?_
      refine WQ.then ?_
      refine hK9 _ _ _ ?_
      refine WC.sub (l' := [(0, .string (bS l)), (2, .bool false), (3, .slice none 0 0), (4, vI 0), (5, vI (chkT T)), (16, .bool false)]) ⟨rfl, rfl, rfl, rfl, rfl, rfl, trivial⟩ ?_
      refine WC.seq fun K25 hK25 => ?_
      refine WC.region ?_
      refine WL.pure (v := .string (bS l)) 25 rfl (Nat.le_of_ble_eq_true rfl) rfl rfl (by kernel_rfl) ?_
      refine WL.call (f := 10) (args := #[.string (bS l)]) 26 rfl (Nat.le_of_ble_eq_true rfl) rfl rfl (by kernel_rfl) ?_
      refine (rParse_any l _ (by omega) (hE.below (HP.below hH24))).mono ?_
      rintro e w4 (⟨ln4, hX4, rfl, hb4⟩ | ⟨T4, hX4, hT4, rfl, hb4⟩ | ⟨T4, pv4, cp4, hX4, hT4, rfl, hb4⟩) <;> rw [hX] at hX4 <;> cases hX4
      rotate_left
      · exact absurd hT4 hT
      refine ⟨_, rfl, ?_⟩
      have hH26 : HP Tr w _ [] := HP.call hH24 hb4
      refine WL.pure (v := .tuple #[.slice none 0 0, vI 0, vI (chkT T)]) 24 rfl (Nat.le_of_ble_eq_true rfl) rfl rfl (by kernel_rfl) ?_
      refine WL.pure (v := .slice none 0 0) 27 rfl (Nat.le_of_ble_eq_true rfl) rfl rfl (by kernel_rfl) ?_
      refine WL.pure (v := vI 0) 28 rfl (Nat.le_of_ble_eq_true rfl) rfl rfl (by kernel_rfl) ?_
      refine WL.pure (v := vI (chkT T)) 29 rfl (Nat.le_of_ble_eq_true rfl) rfl rfl (by kernel_rfl) ?_
      refine WL.pure (v := .slice none 0 0) 6 rfl (Nat.le_of_ble_eq_true rfl) rfl rfl (by kernel_rfl) ?_
      refine WL.pure (v := vI 0) 7 rfl (Nat.le_of_ble_eq_true rfl) rfl rfl (by kernel_rfl) ?_
      refine WL.pure (v := vI (chkT T)) 8 rfl (Nat.le_of_ble_eq_true rfl) rfl rfl (by kernel_rfl) ?_
      refine WL.nil ?_
      refine WQ.then ?_
      refine hK25 _ _ _ ?_
      refine WC.sub (l' := [(0, .string (bS l)), (2, .bool false), (3, .slice none 0 0), (4, vI 0), (5, vI (chkT T)), (6, .slice none 0 0), (7, vI 0), (8, vI (chkT T)), (16, .bool false)]) ⟨rfl, rfl, rfl, rfl, rfl, rfl, rfl, rfl, rfl, trivial⟩ ?_
      refine WC.seq fun K27 hK27 => ?_
      refine WC.seq fun K28 hK28 => ?_
      refine WC.region ?_
      refine WL.pure (v := .slice none 0 0) 30 rfl (Nat.le_of_ble_eq_true rfl) rfl rfl (by kernel_rfl) ?_
      refine WL.pure (v := .slice none 0 0) 31 rfl (Nat.le_of_ble_eq_true rfl) rfl rfl (by kernel_rfl) ?_
      refine WL.call (f := 9) (args := #[.slice none 0 0, .slice none 0 0]) 32 rfl (Nat.le_of_ble_eq_true rfl) rfl rfl (by kernel_rfl) ?_
      refine (Same_any none none 0 0 0 (fun _ => 0) (fun _ => 0) (fun _ => 0) _ (fun h => absurd h (by omega)) (fun h => absurd h (by omega)) (by omega)).mono ?_
      rintro e w29 ⟨rfl, hb30⟩
      refine ⟨_, rfl, ?_⟩
      have hH31 : HP Tr w _ [] := HP.call hH26 hb30
      refine WL.pure (v := .bool false) 33 rfl (Nat.le_of_ble_eq_true rfl) rfl rfl (by kernel_rfl) ?_
      refine WL.pure (v := .bool false) 34 rfl (Nat.le_of_ble_eq_true rfl) rfl rfl (by kernel_rfl) ?_
      refine WL.pure (v := vI 0) 35 rfl (Nat.le_of_ble_eq_true rfl) rfl rfl (by kernel_rfl) ?_
      refine WL.pure (v := vI 0) 36 rfl (Nat.le_of_ble_eq_true rfl) rfl rfl (by kernel_rfl) ?_
      refine WL.pure (v := .bool false) 37 rfl (Nat.le_of_ble_eq_true rfl) rfl rfl (x_neq rfl rfl rfl (by decide)) ?_
      refine WL.pure (v := .bool false) 38 rfl (Nat.le_of_ble_eq_true rfl) rfl rfl (by kernel_rfl) ?_
      refine WL.pure (v := .bool false) 39 rfl (Nat.le_of_ble_eq_true rfl) rfl rfl (by kernel_rfl) ?_
      refine WL.pure (v := vI (chkT T)) 40 rfl (Nat.le_of_ble_eq_true rfl) rfl rfl (by kernel_rfl) ?_
      refine WL.pure (v := vI (chkT T)) 41 rfl (Nat.le_of_ble_eq_true rfl) rfl rfl (by kernel_rfl) ?_
      refine WL.pure (v := .bool false) 42 rfl (Nat.le_of_ble_eq_true rfl) rfl rfl (x_neq rfl rfl rfl (dF (fun h => h rfl))) ?_
      refine WL.pure (v := .bool false) 43 rfl (Nat.le_of_ble_eq_true rfl) rfl rfl (by kernel_rfl) ?_
      refine WL.nil ?_
      refine WQ.then ?_
      refine hK28 _ _ _ ?_
      refine WC.sub (l' := [(0, .string (bS l)), (2, .bool false), (3, .slice none 0 0), (4, vI 0), (5, vI (chkT T)), (6, .slice none 0 0), (7, vI 0), (8, vI (chkT T)), (16, .bool false), (43, .bool false)]) ⟨rfl, rfl, rfl, rfl, rfl, rfl, rfl, rfl, rfl, rfl, trivial⟩ ?_
      refine WC.no rfl ?_
      refine WC.skip ?_
      refine WQ.then ?_
      refine hK27 _ _ _ ?_
      refine WC.seq fun K32 hK32 => ?_
      refine WC.seq fun K33 hK33 => ?_
      refine WC.region ?_
      refine WL.pure (v := vI (chkT T)) 44 rfl (Nat.le_of_ble_eq_true rfl) rfl rfl (by kernel_rfl) ?_
      refine WL.pure (v := .bool false) 45 rfl (Nat.le_of_ble_eq_true rfl) rfl rfl (x_eql rfl rfl rfl (dF (hT))) ?_
      refine WL.nil ?_
      refine WQ.then ?_
      refine hK33 _ _ _ ?_
      refine WC.no rfl ?_
      refine WC.skip ?_
      refine WQ.then ?_
      refine hK32 _ _ _ ?_
      refine WC.seq fun K34 hK34 => ?_
      refine WC.region ?_
      refine WL.call (f := 5) (args := #[]) 73 rfl (Nat.le_of_ble_eq_true rfl) rfl rfl (by kernel_rfl) ?_
      refine (sane_any _).mono ?_
      rintro e w35 ⟨rfl, hb36⟩
      refine ⟨_, rfl, ?_⟩
      have hH37 : HP Tr w _ [] := HP.call hH31 hb36
      refine WL.pure (v := .bool true) 2 rfl (Nat.le_of_ble_eq_true rfl) rfl rfl (by kernel_rfl) ?_
      refine WL.nil ?_
      refine WQ.then ?_
      refine hK34 _ _ _ ?_
      refine WC.ret ?_
      refine WQ.ret1 2 rfl rfl ?_
      exact ⟨rfl, HP.below hH37⟩
    ·
      refine ⟨_, rfl, ?_⟩
      have hH38 : HP Tr w _ [ownI pv T.length cp (cT T) (aT T) (bT T)] := HP.trans hH1 hb
      have hn : T.length ≤ 120 := (chk_ok hT).1
      refine WL.pure (v := .tuple #[.slice pv T.length cp, vI 0, vI 0]) 18 rfl (Nat.le_of_ble_eq_true rfl) rfl rfl (by kernel_rfl) ?_
      refine WL.pure (v := .slice pv T.length cp) 21 rfl (Nat.le_of_ble_eq_true rfl) rfl rfl (by kernel_rfl) ?_
      refine WL.pure (v := vI 0) 22 rfl (Nat.le_of_ble_eq_true rfl) rfl rfl (by kernel_rfl) ?_
      refine WL.pure (v := vI 0) 23 rfl (Nat.le_of_ble_eq_true rfl) rfl rfl (by kernel_rfl) ?_
      refine WL.pure (v := .slice pv T.length cp) 3 rfl (Nat.le_of_ble_eq_true rfl) rfl rfl (by kernel_rfl) ?_
      refine WL.pure (v := vI 0) 4 rfl (Nat.le_of_ble_eq_true rfl) rfl rfl (by kernel_rfl) ?_
      refine WL.pure (v := vI 0) 5 rfl (Nat.le_of_ble_eq_true rfl) rfl rfl (by kernel_rfl) ?_
      refine WL.nil ?_
      refine WQ.then ?_
      refine hK9 _ _ _ ?_
      refine WC.sub (l' := [(0, .string (bS l)), (2, .bool false), (3, .slice pv T.length cp), (4, vI 0), (5, vI 0), (16, .bool false)]) ⟨rfl, rfl, rfl, rfl, rfl, rfl, trivial⟩ ?_
      refine WC.seq fun K39 hK39 => ?_
      refine WC.region ?_
      refine WL.pure (v := .string (bS l)) 25 rfl (Nat.le_of_ble_eq_true rfl) rfl rfl (by kernel_rfl) ?_
      refine WL.call (f := 10) (args := #[.string (bS l)]) 26 rfl (Nat.le_of_ble_eq_true rfl) rfl rfl (by kernel_rfl) ?_
      refine (rParse_any l _ (by omega) (hE.below (HP.below hH38))).mono ?_
      rintro e w4 (⟨ln4, hX4, rfl, hb4⟩ | ⟨T4, hX4, hT4, rfl, hb4⟩ | ⟨T4, pv4, cp4, hX4, hT4, rfl, hb4⟩) <;> rw [hX] at hX4 <;> cases hX4
      · exact absurd hT hT4
      refine ⟨_, rfl, ?_⟩
      have hH40 : HP Tr w _ [ownI pv T.length cp (cT T) (aT T) (bT T), ownI pv4 T.length cp4 (cT T) (aT T) (bT T)] := HP.trans hH38 hb4
      refine WL.pure (v := .tuple #[.slice pv4 T.length cp4, vI 0, vI 0]) 24 rfl (Nat.le_of_ble_eq_true rfl) rfl rfl (by kernel_rfl) ?_
      refine WL.pure (v := .slice pv4 T.length cp4) 27 rfl (Nat.le_of_ble_eq_true rfl) rfl rfl (by kernel_rfl) ?_
      refine WL.pure (v := vI 0) 28 rfl (Nat.le_of_ble_eq_true rfl) rfl rfl (by kernel_rfl) ?_
      refine WL.pure (v := vI 0) 29 rfl (Nat.le_of_ble_eq_true rfl) rfl rfl (by kernel_rfl) ?_
      refine WL.pure (v := .slice pv4 T.length cp4) 6 rfl (Nat.le_of_ble_eq_true rfl) rfl rfl (by kernel_rfl) ?_
      refine WL.pure (v := vI 0) 7 rfl (Nat.le_of_ble_eq_true rfl) rfl rfl (by kernel_rfl) ?_
      refine WL.pure (v := vI 0) 8 rfl (Nat.le_of_ble_eq_true rfl) rfl rfl (by kernel_rfl) ?_
      refine WL.nil ?_
      refine WQ.then ?_
      refine hK39 _ _ _ ?_
      refine WC.sub (l' := [(0, .string (bS l)), (2, .bool false), (3, .slice pv T.length cp), (4, vI 0), (5, vI 0), (6, .slice pv4 T.length cp4), (7, vI 0), (8, vI 0), (16, .bool false)]) ⟨rfl, rfl, rfl, rfl, rfl, rfl, rfl, rfl, rfl, trivial⟩ ?_
      refine WC.seq fun K41 hK41 => ?_
      refine WC.seq fun K42 hK42 => ?_
      refine WC.region ?_
      refine WL.pure (v := .slice pv T.length cp) 30 rfl (Nat.le_of_ble_eq_true rfl) rfl rfl (by kernel_rfl) ?_
      refine WL.pure (v := .slice pv4 T.length cp4) 31 rfl (Nat.le_of_ble_eq_true rfl) rfl rfl (by kernel_rfl) ?_
      refine WL.call (f := 9) (args := #[.slice pv T.length cp, .slice pv4 T.length cp4]) 32 rfl (Nat.le_of_ble_eq_true rfl) rfl rfl (by kernel_rfl) ?_
      refine (Same_any _ _ T.length _ _ (cT T) (aT T) (bT T) _ (own_rowIn (HP.get hH40 0 rfl)).inC (own_rowIn (HP.get hH40 1 rfl)).inC (by omega)).mono ?_
      rintro e w43 ⟨rfl, hb44⟩
      refine ⟨_, rfl, ?_⟩
      have hH45 : HP Tr w _ [ownI pv T.length cp (cT T) (aT T) (bT T), ownI pv4 T.length cp4 (cT T) (aT T) (bT T)] := HP.call hH40 hb44
      refine WL.pure (v := .bool false) 33 rfl (Nat.le_of_ble_eq_true rfl) rfl rfl (by kernel_rfl) ?_
      refine WL.pure (v := .bool false) 34 rfl (Nat.le_of_ble_eq_true rfl) rfl rfl (by kernel_rfl) ?_
      refine WL.pure (v := vI 0) 35 rfl (Nat.le_of_ble_eq_true rfl) rfl rfl (by kernel_rfl) ?_
      refine WL.pure (v := vI 0) 36 rfl (Nat.le_of_ble_eq_true rfl) rfl rfl (by kernel_rfl) ?_
      refine WL.pure (v := .bool false) 37 rfl (Nat.le_of_ble_eq_true rfl) rfl rfl (x_neq rfl rfl rfl (by decide)) ?_
      refine WL.pure (v := .bool false) 38 rfl (Nat.le_of_ble_eq_true rfl) rfl rfl (by kernel_rfl) ?_
      refine WL.pure (v := .bool false) 39 rfl (Nat.le_of_ble_eq_true rfl) rfl rfl (by kernel_rfl) ?_
      refine WL.pure (v := vI 0) 40 rfl (Nat.le_of_ble_eq_true rfl) rfl rfl (by kernel_rfl) ?_
      refine WL.pure (v := vI 0) 41 rfl (Nat.le_of_ble_eq_true rfl) rfl rfl (by kernel_rfl) ?_
      refine WL.pure (v := .bool false) 42 rfl (Nat.le_of_ble_eq_true rfl) rfl rfl (x_neq rfl rfl rfl (by decide)) ?_
      refine WL.pure (v := .bool false) 43 rfl (Nat.le_of_ble_eq_true rfl) rfl rfl (by kernel_rfl) ?_
      refine WL.nil ?_
      refine WQ.then ?_
      refine hK42 _ _ _ ?_
      refine WC.sub (l' := [(0, .string (bS l)), (2, .bool false), (3, .slice pv T.length cp), (4, vI 0), (5, vI 0), (6, .slice pv4 T.length cp4), (7, vI 0), (8, vI 0), (16, .bool false), (43, .bool false)]) ⟨rfl, rfl, rfl, rfl, rfl, rfl, rfl, rfl, rfl, rfl, trivial⟩ ?_
      refine WC.no rfl ?_
      refine WC.skip ?_
      refine WQ.then ?_
      refine hK41 _ _ _ ?_
      refine WC.seq fun K46 hK46 => ?_
      refine WC.seq fun K47 hK47 => ?_
      refine WC.region ?_
      refine WL.pure (v := vI 0) 44 rfl (Nat.le_of_ble_eq_true rfl) rfl rfl (by kernel_rfl) ?_
      refine WL.pure (v := .bool true) 45 rfl (Nat.le_of_ble_eq_true rfl) rfl rfl (x_eql rfl rfl rfl (by decide)) ?_
      refine WL.nil ?_
      refine WQ.then ?_
      refine hK47 _ _ _ ?_
      refine WC.yes rfl ?_
      refine WC.seq fun K48 hK48 => ?_
      refine WC.region ?_
      refine WL.pure (v := .slice pv T.length cp) 47 rfl (Nat.le_of_ble_eq_true rfl) rfl rfl (by kernel_rfl) ?_
      refine WL.call (f := 6) (args := #[.slice pv T.length cp]) 48 rfl (Nat.le_of_ble_eq_true rfl) rfl rfl (by kernel_rfl) ?_
      refine (Text_any _ _ _ (cT T) (aT T) (bT T) _ ((own_rowIn (HP.get hH45 0 rfl)).inC) (hE.below (HP.below hH45))).mono ?_
      rw [show chk (cT T) (aT T) (bT T) false T.length = 0 from hT]
      rintro e w6 ⟨rfl, hb6⟩
      refine ⟨_, rfl, ?_⟩
      have hH49 : HP Tr w _ [ownI pv T.length cp (cT T) (aT T) (bT T), ownI pv4 T.length cp4 (cT T) (aT T) (bT T)] := HP.call hH45 hb6
      refine WL.pure (v := .tuple #[.string (bS (txP (cT T) (aT T) (bT T) T.length)), vI 0]) 46 rfl (Nat.le_of_ble_eq_true rfl) rfl rfl (by kernel_rfl) ?_
      refine WL.pure (v := .string (bS (txP (cT T) (aT T) (bT T) T.length))) 49 rfl (Nat.le_of_ble_eq_true rfl) rfl rfl (by kernel_rfl) ?_
      refine WL.pure (v := vI 0) 50 rfl (Nat.le_of_ble_eq_true rfl) rfl rfl (by kernel_rfl) ?_
      refine WL.pure (v := .string (bS (txP (cT T) (aT T) (bT T) T.length))) 9 rfl (Nat.le_of_ble_eq_true rfl) rfl rfl (by kernel_rfl) ?_
      refine WL.pure (v := vI 0) 10 rfl (Nat.le_of_ble_eq_true rfl) rfl rfl (by kernel_rfl) ?_
      refine WL.nil ?_
      refine WQ.then ?_
      refine hK48 _ _ _ ?_
      refine WC.sub (l' := [(0, .string (bS l)), (2, .bool false), (3, .slice pv T.length cp), (4, vI 0), (5, vI 0), (6, .slice pv4 T.length cp4), (7, vI 0), (8, vI 0), (9, .string (bS (txP (cT T) (aT T) (bT T) T.length))), (10, vI 0), (16, .bool false), (43, .bool false), (45, .bool true)]) ⟨rfl, rfl, rfl, rfl, rfl, rfl, rfl, rfl, rfl, rfl, rfl, rfl, rfl, trivial⟩ ?_
      refine WC.seq fun K50 hK50 => ?_
      refine WC.region ?_
      refine WL.pure (v := .string (bS (txP (cT T) (aT T) (bT T) T.length))) 52 rfl (Nat.le_of_ble_eq_true rfl) rfl rfl (by kernel_rfl) ?_
      obtain ⟨hbk1, hbk2, hbk3⟩ := back hT
      refine WL.call (f := 8) (args := #[.string (bS (txP (cT T) (aT T) (bT T) T.length))]) 53 rfl (Nat.le_of_ble_eq_true rfl) rfl rfl (by kernel_rfl) ?_
      refine (Parse_any (txP (cT T) (aT T) (bT T) T.length) _ hbk2 (hE.below (HP.below hH49))).mono ?_
      rintro e w7 (⟨ln7, hX7, -⟩ | ⟨T7, hX7, hT7, -⟩ | ⟨T7, pv7, cp7, hX7, hT7, rfl, hb7⟩) <;> (rw [hbk3] at hX7; cases hX7)
      · exact absurd hT hT7
      refine ⟨_, rfl, ?_⟩
      have hH51 : HP Tr w _ [ownI pv T.length cp (cT T) (aT T) (bT T), ownI pv4 T.length cp4 (cT T) (aT T) (bT T), ownI pv7 T.length cp7 (cT T) (aT T) (bT T)] := HP.trans hH49 hb7
      refine WL.pure (v := .tuple #[.slice pv7 T.length cp7, vI 0, vI 0]) 51 rfl (Nat.le_of_ble_eq_true rfl) rfl rfl (by kernel_rfl) ?_
      refine WL.pure (v := .slice pv7 T.length cp7) 54 rfl (Nat.le_of_ble_eq_true rfl) rfl rfl (by kernel_rfl) ?_
      refine WL.pure (v := vI 0) 55 rfl (Nat.le_of_ble_eq_true rfl) rfl rfl (by kernel_rfl) ?_
      refine WL.pure (v := vI 0) 56 rfl (Nat.le_of_ble_eq_true rfl) rfl rfl (by kernel_rfl) ?_
      refine WL.pure (v := .slice pv7 T.length cp7) 11 rfl (Nat.le_of_ble_eq_true rfl) rfl rfl (by kernel_rfl) ?_
      refine WL.pure (v := vI 0) 12 rfl (Nat.le_of_ble_eq_true rfl) rfl rfl (by kernel_rfl) ?_
      refine WL.pure (v := vI 0) 13 rfl (Nat.le_of_ble_eq_true rfl) rfl rfl (by kernel_rfl) ?_
      refine WL.nil ?_
      refine WQ.then ?_
      refine hK50 _ _ _ ?_
      refine WC.sub (l' := [(0, .string (bS l)), (2, .bool false), (3, .slice pv T.length cp), (4, vI 0), (5, vI 0), (6, .slice pv4 T.length cp4), (7, vI 0), (8, vI 0), (9, .string (bS (txP (cT T) (aT T) (bT T) T.length))), (10, vI 0), (11, .slice pv7 T.length cp7), (12, vI 0), (13, vI 0), (16, .bool false), (43, .bool false), (45, .bool true)]) ⟨rfl, rfl, rfl, rfl, rfl, rfl, rfl, rfl, rfl, rfl, rfl, rfl, rfl, rfl, rfl, rfl, trivial⟩ ?_
      refine WC.seq fun K52 hK52 => ?_
      refine WC.region ?_
      refine WL.pure (v := vI 0) 57 rfl (Nat.le_of_ble_eq_true rfl) rfl rfl (by kernel_rfl) ?_
      refine WL.pure (v := .bool false) 58 rfl (Nat.le_of_ble_eq_true rfl) rfl rfl (x_neq rfl rfl rfl (by decide)) ?_
      refine WL.pure (v := .bool false) 59 rfl (Nat.le_of_ble_eq_true rfl) rfl rfl (by kernel_rfl) ?_
      refine WL.pure (v := vI 0) 60 rfl (Nat.le_of_ble_eq_true rfl) rfl rfl (by kernel_rfl) ?_
      refine WL.pure (v := .bool false) 61 rfl (Nat.le_of_ble_eq_true rfl) rfl rfl (x_neq rfl rfl rfl (by decide)) ?_
      refine WL.pure (v := .bool false) 62 rfl (Nat.le_of_ble_eq_true rfl) rfl rfl (by kernel_rfl) ?_
      refine WL.pure (v := .bool false) 63 rfl (Nat.le_of_ble_eq_true rfl) rfl rfl (by kernel_rfl) ?_
      refine WL.pure (v := vI 0) 64 rfl (Nat.le_of_ble_eq_true rfl) rfl rfl (by kernel_rfl) ?_
      refine WL.pure (v := .bool false) 65 rfl (Nat.le_of_ble_eq_true rfl) rfl rfl (x_neq rfl rfl rfl (by decide)) ?_
      refine WL.pure (v := .bool false) 66 rfl (Nat.le_of_ble_eq_true rfl) rfl rfl (by kernel_rfl) ?_
      refine WL.pure (v := .bool false) 67 rfl (Nat.le_of_ble_eq_true rfl) rfl rfl (by kernel_rfl) ?_
      refine WL.pure (v := .slice pv7 T.length cp7) 68 rfl (Nat.le_of_ble_eq_true rfl) rfl rfl (by kernel_rfl) ?_
      refine WL.pure (v := .slice pv T.length cp) 69 rfl (Nat.le_of_ble_eq_true rfl) rfl rfl (by kernel_rfl) ?_
      refine WL.call (f := 9) (args := #[.slice pv7 T.length cp7, .slice pv T.length cp]) 70 rfl (Nat.le_of_ble_eq_true rfl) rfl rfl (by kernel_rfl) ?_
      refine (Same_any _ _ T.length _ _ (cT T) (aT T) (bT T) _ (own_rowIn (HP.get hH51 2 rfl)).inC (own_rowIn (HP.get hH51 0 rfl)).inC (by omega)).mono ?_
      rintro e w53 ⟨rfl, hb54⟩
      refine ⟨_, rfl, ?_⟩
      have hH55 : HP Tr w _ [ownI pv T.length cp (cT T) (aT T) (bT T), ownI pv4 T.length cp4 (cT T) (aT T) (bT T), ownI pv7 T.length cp7 (cT T) (aT T) (bT T)] := HP.call hH51 hb54
      refine WL.pure (v := .bool false) 71 rfl (Nat.le_of_ble_eq_true rfl) rfl rfl (by kernel_rfl) ?_
      refine WL.pure (v := .bool false) 72 rfl (Nat.le_of_ble_eq_true rfl) rfl rfl (by kernel_rfl) ?_
      refine WL.nil ?_
      refine WQ.then ?_
      refine hK52 _ _ _ ?_
      refine WC.sub (l' := [(0, .string (bS l)), (2, .bool false), (3, .slice pv T.length cp), (4, vI 0), (5, vI 0), (6, .slice pv4 T.length cp4), (7, vI 0), (8, vI 0), (9, .string (bS (txP (cT T) (aT T) (bT T) T.length))), (10, vI 0), (11, .slice pv7 T.length cp7), (12, vI 0), (13, vI 0), (16, .bool false), (43, .bool false), (45, .bool true), (72, .bool false)]) ⟨rfl, rfl, rfl, rfl, rfl, rfl, rfl, rfl, rfl, rfl, rfl, rfl, rfl, rfl, rfl, rfl, rfl, trivial⟩ ?_
      refine WC.no rfl ?_
      refine WC.skip ?_
      refine WQ.then ?_
      refine hK46 _ _ _ ?_
      refine WC.seq fun K56 hK56 => ?_
      refine WC.region ?_
      refine WL.call (f := 5) (args := #[]) 73 rfl (Nat.le_of_ble_eq_true rfl) rfl rfl (by kernel_rfl) ?_
      refine (sane_any _).mono ?_
      rintro e w57 ⟨rfl, hb58⟩
      refine ⟨_, rfl, ?_⟩
      have hH59 : HP Tr w _ [ownI pv T.length cp (cT T) (aT T) (bT T), ownI pv4 T.length cp4 (cT T) (aT T) (bT T), ownI pv7 T.length cp7 (cT T) (aT T) (bT T)] := HP.call hH55 hb58
      refine WL.pure (v := .bool true) 2 rfl (Nat.le_of_ble_eq_true rfl) rfl rfl (by kernel_rfl) ?_
      refine WL.nil ?_
      refine WQ.then ?_
      refine hK56 _ _ _ ?_
      refine WC.ret ?_
      refine WQ.ret1 2 rfl rfl ?_
      exact ⟨rfl, HP.below hH59⟩

theorem own : ownKnob Tryd.prog.godebug = none := by kernel_rfl
theorem laidOut : laidOutB Tryd.prog = true := by kernel_rfl
theorem door_met (os : Os) (args : Array Value) : laidMetH Tryd.prog Rows.codeReadsRow.laid ((World.doorLaid Tryd.prog 62 os).forCall (fun _ _ => 0) ⟨#[], args, []⟩).memory :=
  laidMetH_of_parts3 (fuel := 8) (laidMet_of_run' 8 (by kernel_rfl) (by kernel_rfl)) (by kernel_rfl) (by kernel_rfl)
theorem tab0 {W : World} (h : laidMetH Tryd.prog Rows.codeReadsRow.laid W) : Lib.TabIs Tryd.prog W "internal/strconv.uint64pow10" .u64 Lib.pow10Tab := by
  rw [MakeChecks.laidMetH_plain _ _ _ (by kernel_rfl)] at h
  exact Lib.tabIs_of_head (g := 1) (by kernel_rfl) (by kernel_rfl) Tryd.underlying122 Tryd.underlying103 (by kernel_rfl) (by kernel_rfl) (show laidMet Tryd.prog (("internal/strconv.uint64pow10", Lib.tabData .u64 Lib.pow10Tab) :: _) W from h.tail.tail)
theorem cells144 : Tryd.prog.cellsOf 144 = 1 := by kernel_rfl
theorem cells9 : Tryd.prog.cellsOf 9 = 1 := by kernel_rfl
theorem star : "*" ++ "errors.errorString" = "*errors.errorString" := by decide
theorem row142 (u : TypeId) (h : Tryd.prog.typeName? 3 u = some "*errors.errorString") : u = 142 :=
  typeName_ptr_named (nm := "errors.errorString") (by rw [star]; kernel_rfl) (by kernel_rfl) (by decide) u (by rw [star]; exact h)
theorem gES : Tryd.prog.globalNamed "strconv.ErrSyntax" = some 2 := by kernel_rfl
theorem gEST : (Tryd.prog.globals[2]?).map (·.type) = some 52 := by kernel_rfl
theorem gER : Tryd.prog.globalNamed "strconv.ErrRange" = some 3 := by kernel_rfl
theorem gERT : (Tryd.prog.globals[3]?).map (·.type) = some 52 := by kernel_rfl
theorem ev_of {W : World} (h : laidMetH Tryd.prog Rows.codeReadsRow.laid W) : Ev W := by
  have ht := tab0 h
  rw [MakeChecks.laidMetH_plain _ _ _ (by kernel_rfl)] at h
  obtain ⟨a0, s0, hv0, -, -, -⟩ := laid_sentinel h.tail.tail.tail gER gERT Tryd.underlying52 row142 Tryd.underlying142 Tryd.underlying144 rfl rfl Tryd.underlying9 cells144 cells9
  obtain ⟨a1, s1, hv1, -, -, -⟩ := laid_sentinel h.tail.tail.tail.tail gES gEST Tryd.underlying52 row142 Tryd.underlying142 Tryd.underlying144 rfl rfl Tryd.underlying9 cells144 cells9
  exact ⟨ht, ⟨_, _, by have h0 := World.var?_cell gES hv1 0; simpa using h0⟩, _, _, by have h0 := World.var?_cell gER hv0 0; simpa using h0⟩
set_option maxRecDepth 100000 in
theorem lifted (os : Os) (started : os.Started) (H : Type) (enc : TypeId × Value → H) :
    ReturnsInHanded {} Tryd.checked os 4 .any (fun w args => (Rows.codeReadsSpec.pre enc Tryd.prog Tryd.f4 Rows.codeReadsRow.domain false w args ∧ laidMetH Tryd.prog Rows.codeReadsRow.laid w) ∧ sizedMet enc Tryd.prog Tryd.f4 (OpenSpec.ofChange Rows.codeReadsSpec) false w args) (Rows.codeReadsSpec.post enc Tryd.prog Tryd.f4 false true false false) := by
  refine returnsInHanded_of_change_and (C := Tryd.checked) (X := fun w _ => laidMetH Tryd.prog Rows.codeReadsRow.laid w) (fun _ _ _ hh h => h.of_heap hh) own started (by kernel_rfl) Tryd.func4
    (ChangeSpec.witness_shaped (enc := enc) (C := Tryd.checked) (os := os) (X := fun w _ => laidMetH Tryd.prog Rows.codeReadsRow.laid w) false (World.doorLaid Tryd.prog 62 os) #[.string ByteArray.empty] 8 rfl (World.shaped_of_RefB (by kernel_rfl) (by kernel_rfl)) (by kernel_rfl) (by kernel_rfl) (by kernel_rfl) (door_met os _)) ?_
  intro W base args ds gs before hval0 hW _ hsz0 hL _
  have hval : ∀ (j : Nat) t v, Tryd.f4.params[j]? = some t → args[j]? = some v → Value.okWide Tryd.prog W .any base t v := hval0
  have hW' := hW
  obtain ⟨p, q, hA0, hV, rfl, hfz, hnd⟩ := hW
  have hA : DataW.TrodAll enc Tryd.prog W 0 (fun _ => true) true Tryd.f4.params.toList args.toList ds p := hA0
  have hsz : (DataW.weightsEach Tryd.prog (Tryd.f4.params.toList ++ Rows.codeReadsSpec.plain.varTypes Tryd.prog) (ds ++ gs)).all (· ≤ reachBytes) = true := hsz0
  clear hsz0
  rw [Tryd.params4] at hA hval hsz
  obtain ⟨v0, vs0, d0, ds0, p0, q0, hargs, rfl, rfl, h0, r0⟩ := trodAll_cons hA
  obtain ⟨rfl, rfl, rfl⟩ := trodAll_nil r0
  obtain rfl : args = #[v0] := by cases args; simp_all
  obtain ⟨rfl, rfl⟩ := trodVars_none hV
  obtain ⟨a0, rfl, rfl, rfl, w0⟩ := open_string Tryd.underlying9 (hval 0 9 v0 rfl rfl) h0
  have z0 : a0.size ≤ 281474976710656 := by
    have h1 := sized_string hsz (j := 0) (t := 9) rfl rfl
    have h2 := reachBytes_lt
    have e1 : a0.size = a0.data.size := rfl
    have e2 : a0.data.toList.length = a0.data.size := Array.length_toList
    have e3 : (2 : Nat) ^ 47 = 140737488355328 := by decide
    omega
  clear hA0 hval0
  refine (walk a0 W z0 (ev_of hL)).mono fun e W' ⟨he, bel⟩ => ?_
  subst he
  exact ⟨_, rfl, _, _, _, [], _, [], hW', trodAll_mk1 (shut_bool Tryd.underlying4 _), (trodAll_cons_mk (shut_string Tryd.underlying9 w0) trodAll_mk0), rfl, bel.frame _, fun h => by cases h⟩

theorem over : Rows.codeReadsRow.holds Tryd.pinned (OpenSpec.ofChange Rows.codeReadsSpec) :=
  OpenClaim.holds_of_wide 4 Tryd.f4 rfl rfl rfl rfl rfl rfl rfl ⟨rfl, rfl, rfl, rfl, rfl⟩ rfl rfl rfl rfl rfl (by kernel_rfl) Tryd.func4 (by kernel_rfl)
    (of_decide_eq_true (by kernel_rfl)) (by unfold Func.isWrapper; first | (rw [if_pos (by decide +kernel)]; kernel_rfl) | (rw [if_neg (by decide +kernel)]; exact ⟨rfl, rfl⟩))
    (fun os started H enc _ => lifted os started H enc)
/-- the statement: the tied card -/
theorem proved : Rows.CodeReadsCardSaid :=
  Claim7.holds_tied_plain_at .later [] [.data, .data, .data, .sentinel, .sentinel] true (true, "ead39c95c1cec9fa0e8306d047aedb6730988868eae33e106a3f13c3be63ff3f") true
    over (fun _ h => by cases h) (by kernel_rfl) (fun _ h => by cases h) codeReads_row_tie rfl ⟨rfl, rfl⟩ (by kernel_rfl) rfl
    (fun f fn hf hfn => by
      obtain rfl : f = 4 := Option.some.inj ((show Tryd.prog.funcNamed Rows.codeReadsRow.func = some 4 by kernel_rfl).symm.trans hf) |>.symm
      obtain rfl : fn = Tryd.f4 := (Option.some.inj (Tryd.func4.symm.trans hfn)).symm
      exact ⟨by kernel_rfl, fun j t ht => by
        rw [Tryd.params4] at ht
        have hm : t ∈ [9] := by simpa using Array.mem_of_getElem? ht
        have hall : ([9].all fun u => !Tryd.prog.wantsStandIn u) = true := by kernel_rfl
        exact (show Tryd.prog.wantsStandIn t = false by simpa using List.all_eq_true.1 hall t hm)⟩)
    (by kernel_rfl)
end Go.Proofs.YteeljnlepbnhkaaDoor.codeReads
