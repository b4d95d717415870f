/-
  The statement CodeWrites: Text is that of the reference, for all lists, and is read back.
  Conditions: none beyond those of the given row.
-/
import Derived.Test.YteeljnlepbnhkaaDoorCards
import Derived.Test.YteeljnlepbnhkaaDoorPG
import Derived.Test.YteeljnlepbnhkaaDoorTie
import Derived.SevenTiedAt
import Derived.Lib.LaidTab
import Derived.LaidMore
import Derived.Stop.Joined
import Derived.Stop.LaidErr
import Derived.ProofKit
import Derived.OpenShut
import Derived.ShutString
import Derived.ChangeOld
import Derived.Lib.SmallJoins
set_option linter.unusedVariables false
set_option linter.unusedSimpArgs false
namespace Go.Proofs.YteeljnlepbnhkaaDoor.codeWrites
open Go.ChangeShapes Go.WideShapes Go.ChangeAt Go.RowKit Go.Joins
open Go.ChangeMaps (open_string shut_string)
open Cw Ec Qa Fw

set_option maxRecDepth 20000 in
set_option maxHeartbeats 4000000 in
theorem walk (p : Option Addr) (n cap : Nat) (c A B : Nat → Int) (w : World) (hR0 : RowIn w p n cap c A B) (hE : Ev w) :
    Calls Tryd.prog 3 #[.slice p n cap] w fun e w' => e = .returned (.bool true) ∧ Below w.heap.size w w' := by
  obtain ⟨T, rfl, hR⟩ := row_T hR0
  refine calls_of Tryd.func3 rfl (m := 53) rfl [(0, .slice p T.length cap)] (Fr_enter [.slice p T.length cap] 53 (Nat.le_of_ble_eq_true rfl)) ?_
  have hH1 : HP Tr w w [] := HP.refl w
  refine WC.seq fun K2 hK2 => ?_
  refine WC.region ?_
  refine WL.pure (v := .bool false) 2 rfl (Nat.le_of_ble_eq_true rfl) rfl rfl (by kernel_rfl) ?_
  refine WL.nil ?_
  refine WQ.then ?_
  refine hK2 _ _ _ ?_
  refine WC.seq fun K3 hK3 => ?_
  refine WC.seq fun K4 hK4 => ?_
  refine WC.region ?_
  refine WL.pure (v := .slice p T.length cap) 10 rfl (Nat.le_of_ble_eq_true rfl) rfl rfl (by kernel_rfl) ?_
  refine WL.pure (v := vI (T.length : Int)) 11 rfl (Nat.le_of_ble_eq_true rfl) rfl rfl (by kernel_rfl) ?_
  by_cases hl : (400 : Int) < (T.length : Int)
  ·
    refine WL.pure (v := .bool true) 12 rfl (Nat.le_of_ble_eq_true rfl) rfl rfl (x_gtr rfl rfl rfl (dT (hl))) ?_
    refine WL.nil ?_
    refine WQ.then ?_
    refine hK4 _ _ _ ?_
    refine WC.yes rfl ?_
    refine WC.seq fun K5 hK5 => ?_
    refine WC.region ?_
    refine WL.call (f := 5) (args := #[]) 13 rfl (Nat.le_of_ble_eq_true rfl) rfl rfl (by kernel_rfl) ?_
    refine (sane_any _).mono ?_
    rintro e w6 ⟨rfl, hb7⟩
    refine ⟨_, rfl, ?_⟩
    have hH8 : HP Tr w _ [] := HP.call hH1 hb7
    refine WL.pure (v := .bool true) 2 rfl (Nat.le_of_ble_eq_true rfl) rfl rfl (by kernel_rfl) ?_
    refine WL.nil ?_
    refine WQ.then ?_
    refine hK5 _ _ _ ?_
    refine WC.ret ?_
    refine WQ.thenRet ?_
    refine WQ.ret1 2 rfl rfl ?_
    exact ⟨rfl, HP.below hH8⟩
  ·
    refine WL.pure (v := .bool false) 12 rfl (Nat.le_of_ble_eq_true rfl) rfl rfl (x_gtr rfl rfl rfl (dF (hl))) ?_
    refine WL.nil ?_
    refine WQ.then ?_
    refine hK4 _ _ _ ?_
    refine WC.no rfl ?_
    refine WC.skip ?_
    refine WQ.then ?_
    refine hK3 _ _ _ ?_
    refine WC.seq fun K9 hK9 => ?_
    refine WC.region ?_
    refine WL.pure (v := .slice p T.length cap) 15 rfl (Nat.le_of_ble_eq_true rfl) rfl rfl (by kernel_rfl) ?_
    refine WL.call (f := 6) (args := #[.slice p T.length cap]) 16 rfl (Nat.le_of_ble_eq_true rfl) rfl rfl (by kernel_rfl) ?_
    refine (Text_any _ _ _ (cT T) (aT T) (bT T) _ (hR.inC.below (HP.below hH1)) (hE.below (HP.below hH1))).mono ?_
    rintro e w10 ⟨rfl, hb11⟩
    refine ⟨_, rfl, ?_⟩
    have hH12 : HP Tr w _ [] := HP.call hH1 hb11
    refine WL.pure (v := .tuple #[.string (bS (txP (cT T) (aT T) (bT T) T.length)), vI (chk (cT T) (aT T) (bT T) false T.length)]) 14 rfl (Nat.le_of_ble_eq_true rfl) rfl rfl (by kernel_rfl) ?_
    refine WL.pure (v := .string (bS (txP (cT T) (aT T) (bT T) T.length))) 17 rfl (Nat.le_of_ble_eq_true rfl) rfl rfl (by kernel_rfl) ?_
    refine WL.pure (v := vI (chk (cT T) (aT T) (bT T) false T.length)) 18 rfl (Nat.le_of_ble_eq_true rfl) rfl rfl (by kernel_rfl) ?_
    refine WL.pure (v := .string (bS (txP (cT T) (aT T) (bT T) T.length))) 3 rfl (Nat.le_of_ble_eq_true rfl) rfl rfl (by kernel_rfl) ?_
    refine WL.pure (v := vI (chk (cT T) (aT T) (bT T) false T.length)) 4 rfl (Nat.le_of_ble_eq_true rfl) rfl rfl (by kernel_rfl) ?_
    refine WL.nil ?_
    refine WQ.then ?_
    refine hK9 _ _ _ ?_
    refine WC.sub (l' := [(0, .slice p T.length cap), (2, .bool false), (3, .string (bS (txP (cT T) (aT T) (bT T) T.length))), (4, vI (chk (cT T) (aT T) (bT T) false T.length)), (12, .bool false)]) ⟨rfl, rfl, rfl, rfl, rfl, trivial⟩ ?_
    refine WC.seq fun K13 hK13 => ?_
    refine WC.region ?_
    refine WL.pure (v := .slice p T.length cap) 20 rfl (Nat.le_of_ble_eq_true rfl) rfl rfl (by kernel_rfl) ?_
    refine WL.call (f := 7) (args := #[.slice p T.length cap]) 21 rfl (Nat.le_of_ble_eq_true rfl) rfl rfl (by kernel_rfl) ?_
    refine (rText_any _ _ _ (cT T) (aT T) (bT T) _ (hR.inC.below (HP.below hH12)) (hE.below (HP.below hH12))).mono ?_
    rintro e w14 ⟨rfl, hb15⟩
    refine ⟨_, rfl, ?_⟩
    have hH16 : HP Tr w _ [] := HP.call hH12 hb15
    refine WL.pure (v := .tuple #[.string (bS (txP (cT T) (aT T) (bT T) T.length)), vI (chk (cT T) (aT T) (bT T) false T.length)]) 19 rfl (Nat.le_of_ble_eq_true rfl) rfl rfl (by kernel_rfl) ?_
    refine WL.pure (v := .string (bS (txP (cT T) (aT T) (bT T) T.length))) 22 rfl (Nat.le_of_ble_eq_true rfl) rfl rfl (by kernel_rfl) ?_
    refine WL.pure (v := vI (chk (cT T) (aT T) (bT T) false T.length)) 23 rfl (Nat.le_of_ble_eq_true rfl) rfl rfl (by kernel_rfl) ?_
    refine WL.pure (v := .string (bS (txP (cT T) (aT T) (bT T) T.length))) 5 rfl (Nat.le_of_ble_eq_true rfl) rfl rfl (by kernel_rfl) ?_
    refine WL.pure (v := vI (chk (cT T) (aT T) (bT T) false T.length)) 6 rfl (Nat.le_of_ble_eq_true rfl) rfl rfl (by kernel_rfl) ?_
    refine WL.nil ?_
    refine WQ.then ?_
    refine hK13 _ _ _ ?_
    refine WC.seq fun K17 hK17 => ?_
    refine WC.seq fun K18 hK18 => ?_
    refine WC.region ?_
    refine WL.pure (v := .string (bS (txP (cT T) (aT T) (bT T) T.length))) 24 rfl (Nat.le_of_ble_eq_true rfl) rfl rfl (by kernel_rfl) ?_
    refine WL.pure (v := .string (bS (txP (cT T) (aT T) (bT T) T.length))) 25 rfl (Nat.le_of_ble_eq_true rfl) rfl rfl (by kernel_rfl) ?_
    refine WL.pure (v := .bool false) 26 rfl (Nat.le_of_ble_eq_true rfl) rfl rfl (x_neqs rfl rfl rfl (dF (fun h => h rfl))) ?_
    refine WL.pure (v := .bool false) 27 rfl (Nat.le_of_ble_eq_true rfl) rfl rfl (by kernel_rfl) ?_
    refine WL.pure (v := vI (chk (cT T) (aT T) (bT T) false T.length)) 28 rfl (Nat.le_of_ble_eq_true rfl) rfl rfl (by kernel_rfl) ?_
    refine WL.pure (v := vI (chk (cT T) (aT T) (bT T) false T.length)) 29 rfl (Nat.le_of_ble_eq_true rfl) rfl rfl (by kernel_rfl) ?_
    refine WL.pure (v := .bool false) 30 rfl (Nat.le_of_ble_eq_true rfl) rfl rfl (x_neq rfl rfl rfl (dF (fun h => h rfl))) ?_
    refine WL.pure (v := .bool false) 31 rfl (Nat.le_of_ble_eq_true rfl) rfl rfl (by kernel_rfl) ?_
    refine WL.nil ?_
    refine WQ.then ?_
    refine hK18 _ _ _ ?_
    refine WC.sub (l' := [(0, .slice p T.length cap), (2, .bool false), (3, .string (bS (txP (cT T) (aT T) (bT T) T.length))), (4, vI (chk (cT T) (aT T) (bT T) false T.length)), (5, .string (bS (txP (cT T) (aT T) (bT T) T.length))), (6, vI (chk (cT T) (aT T) (bT T) false T.length)), (12, .bool false), (31, .bool false)]) ⟨rfl, rfl, rfl, rfl, rfl, rfl, rfl, rfl, trivial⟩ ?_
    refine WC.no rfl ?_
    refine WC.skip ?_
    refine WQ.then ?_
    refine hK17 _ _ _ ?_
    refine WC.seq fun K19 hK19 => ?_
    refine WC.seq fun K20 hK20 => ?_
    refine WC.region ?_
    refine WL.pure (v := vI (chk (cT T) (aT T) (bT T) false T.length)) 32 rfl (Nat.le_of_ble_eq_true rfl) rfl rfl (by kernel_rfl) ?_
    by_cases hT : chk (cT T) (aT T) (bT T) false T.length = 0
    ·
      refine WL.pure (v := .bool true) 33 rfl (Nat.le_of_ble_eq_true rfl) rfl rfl (x_eql rfl rfl rfl (dT (hT))) ?_
      refine WL.nil ?_
      refine WQ.then ?_
      refine hK20 _ _ _ ?_
      refine WC.yes rfl ?_
      refine WC.seq fun K21 hK21 => ?_
      refine WC.region ?_
      refine WL.pure (v := .string (bS (txP (cT T) (aT T) (bT T) T.length))) 35 rfl (Nat.le_of_ble_eq_true rfl) rfl rfl (by kernel_rfl) ?_
      obtain ⟨hbk1, hbk2, hbk3⟩ := back hT
      refine WL.call (f := 8) (args := #[.string (bS (txP (cT T) (aT T) (bT T) T.length))]) 36 rfl (Nat.le_of_ble_eq_true rfl) rfl rfl (by kernel_rfl) ?_
      refine (Parse_any (txP (cT T) (aT T) (bT T) T.length) _ hbk2 (hE.below (HP.below hH16))).mono ?_
      rintro e w7 (⟨ln7, hX7, -⟩ | ⟨T7, hX7, hT7, -⟩ | ⟨T7, pv7, cp7, hX7, hT7, rfl, hb7⟩) <;> (rw [hbk3] at hX7; cases hX7)
      · exact absurd hT hT7
      refine ⟨_, rfl, ?_⟩
      have hH22 : HP Tr w _ [ownI pv7 T.length cp7 (cT T) (aT T) (bT T)] := HP.trans hH16 hb7
      refine WL.pure (v := .tuple #[.slice pv7 T.length cp7, vI 0, vI 0]) 34 rfl (Nat.le_of_ble_eq_true rfl) rfl rfl (by kernel_rfl) ?_
      refine WL.pure (v := .slice pv7 T.length cp7) 37 rfl (Nat.le_of_ble_eq_true rfl) rfl rfl (by kernel_rfl) ?_
      refine WL.pure (v := vI 0) 38 rfl (Nat.le_of_ble_eq_true rfl) rfl rfl (by kernel_rfl) ?_
      refine WL.pure (v := vI 0) 39 rfl (Nat.le_of_ble_eq_true rfl) rfl rfl (by kernel_rfl) ?_
      refine WL.pure (v := .slice pv7 T.length cp7) 7 rfl (Nat.le_of_ble_eq_true rfl) rfl rfl (by kernel_rfl) ?_
      refine WL.pure (v := vI 0) 8 rfl (Nat.le_of_ble_eq_true rfl) rfl rfl (by kernel_rfl) ?_
      refine WL.pure (v := vI 0) 9 rfl (Nat.le_of_ble_eq_true rfl) rfl rfl (by kernel_rfl) ?_
      refine WL.nil ?_
      refine WQ.then ?_
      refine hK21 _ _ _ ?_
      refine WC.sub (l' := [(0, .slice p T.length cap), (2, .bool false), (3, .string (bS (txP (cT T) (aT T) (bT T) T.length))), (4, vI (chk (cT T) (aT T) (bT T) false T.length)), (5, .string (bS (txP (cT T) (aT T) (bT T) T.length))), (6, vI (chk (cT T) (aT T) (bT T) false T.length)), (7, .slice pv7 T.length cp7), (8, vI 0), (9, vI 0), (12, .bool false), (31, .bool false), (33, .bool true)]) ⟨rfl, rfl, rfl, rfl, rfl, rfl, rfl, rfl, rfl, rfl, rfl, rfl, trivial⟩ ?_
      refine WC.seq fun K23 hK23 => ?_
      refine WC.region ?_
      refine WL.pure (v := vI 0) 40 rfl (Nat.le_of_ble_eq_true rfl) rfl rfl (by kernel_rfl) ?_
      refine WL.pure (v := .bool false) 41 rfl (Nat.le_of_ble_eq_true rfl) rfl rfl (x_neq rfl rfl rfl (by decide)) ?_
      refine WL.pure (v := .bool false) 42 rfl (Nat.le_of_ble_eq_true rfl) rfl rfl (by kernel_rfl) ?_
      refine WL.pure (v := vI 0) 43 rfl (Nat.le_of_ble_eq_true rfl) rfl rfl (by kernel_rfl) ?_
      refine WL.pure (v := .bool false) 44 rfl (Nat.le_of_ble_eq_true rfl) rfl rfl (x_neq rfl rfl rfl (by decide)) ?_
      refine WL.pure (v := .bool false) 45 rfl (Nat.le_of_ble_eq_true rfl) rfl rfl (by kernel_rfl) ?_
      refine WL.pure (v := .bool false) 46 rfl (Nat.le_of_ble_eq_true rfl) rfl rfl (by kernel_rfl) ?_
      refine WL.pure (v := .slice p T.length cap) 47 rfl (Nat.le_of_ble_eq_true rfl) rfl rfl (by kernel_rfl) ?_
      refine WL.pure (v := .slice pv7 T.length cp7) 48 rfl (Nat.le_of_ble_eq_true rfl) rfl rfl (by kernel_rfl) ?_
      refine WL.call (f := 9) (args := #[.slice p T.length cap, .slice pv7 T.length cp7]) 49 rfl (Nat.le_of_ble_eq_true rfl) rfl rfl (by kernel_rfl) ?_
      refine (Same_any _ _ T.length _ _ (cT T) (aT T) (bT T) _ (hR.inC.below (HP.below hH22)) (own_rowIn (HP.get hH22 0 rfl)).inC (by omega)).mono ?_
      rintro e w24 ⟨rfl, hb25⟩
      refine ⟨_, rfl, ?_⟩
      have hH26 : HP Tr w _ [ownI pv7 T.length cp7 (cT T) (aT T) (bT T)] := HP.call hH22 hb25
      refine WL.pure (v := .bool false) 50 rfl (Nat.le_of_ble_eq_true rfl) rfl rfl (by kernel_rfl) ?_
      refine WL.pure (v := .bool false) 51 rfl (Nat.le_of_ble_eq_true rfl) rfl rfl (by kernel_rfl) ?_
      refine WL.nil ?_
      refine WQ.then ?_
      refine hK23 _ _ _ ?_
      refine WC.sub (l' := [(0, .slice p T.length cap), (2, .bool false), (3, .string (bS (txP (cT T) (aT T) (bT T) T.length))), (4, vI (chk (cT T) (aT T) (bT T) false T.length)), (5, .string (bS (txP (cT T) (aT T) (bT T) T.length))), (6, vI (chk (cT T) (aT T) (bT T) false T.length)), (7, .slice pv7 T.length cp7), (8, vI 0), (9, vI 0), (12, .bool false), (31, .bool false), (33, .bool true), (51, .bool false)]) ⟨rfl, rfl, rfl, rfl, rfl, rfl, rfl, rfl, rfl, rfl, rfl, rfl, rfl, trivial⟩ ?_
      refine WC.no rfl ?_
      refine WC.skip ?_
      refine WQ.then ?_
      refine hK19 _ _ _ ?_
      refine WC.seq fun K27 hK27 => ?_
      refine WC.region ?_
      refine WL.call (f := 5) (args := #[]) 52 rfl (Nat.le_of_ble_eq_true rfl) rfl rfl (by kernel_rfl) ?_
      refine (sane_any _).mono ?_
      rintro e w28 ⟨rfl, hb29⟩
      refine ⟨_, rfl, ?_⟩
      have hH30 : HP Tr w _ [ownI pv7 T.length cp7 (cT T) (aT T) (bT T)] := HP.call hH26 hb29
      refine WL.pure (v := .bool true) 2 rfl (Nat.le_of_ble_eq_true rfl) rfl rfl (by kernel_rfl) ?_
      refine WL.nil ?_
      refine WQ.then ?_
      refine hK27 _ _ _ ?_
      refine WC.ret ?_
      refine WQ.ret1 2 rfl rfl ?_
      exact ⟨rfl, HP.below hH30⟩
    ·
      refine WL.pure (v := .bool false) 33 rfl (Nat.le_of_ble_eq_true rfl) rfl rfl (x_eql rfl rfl rfl (dF (hT))) ?_
      refine WL.nil ?_
      refine WQ.then ?_
      refine hK20 _ _ _ ?_
      refine WC.no rfl ?_
      refine WC.skip ?_
      refine WQ.then ?_
      refine hK19 _ _ _ ?_
      refine WC.seq fun K31 hK31 => ?_
      refine WC.region ?_
      refine WL.call (f := 5) (args := #[]) 52 rfl (Nat.le_of_ble_eq_true rfl) rfl rfl (by kernel_rfl) ?_
      refine (sane_any _).mono ?_
      rintro e w32 ⟨rfl, hb33⟩
      refine ⟨_, rfl, ?_⟩
      have hH34 : HP Tr w _ [] := HP.call hH16 hb33
      refine WL.pure (v := .bool true) 2 rfl (Nat.le_of_ble_eq_true rfl) rfl rfl (by kernel_rfl) ?_
      refine WL.nil ?_
      refine WQ.then ?_
      refine hK31 _ _ _ ?_
      refine WC.ret ?_
      refine WQ.ret1 2 rfl rfl ?_
      exact ⟨rfl, HP.below hH34⟩

theorem own : ownKnob Tryd.prog.godebug = none := by kernel_rfl
theorem laidOut : laidOutB Tryd.prog = true := by kernel_rfl
theorem door_met (os : Os) (args : Array Value) : laidMetH Tryd.prog Rows.codeWritesRow.laid ((World.doorLaid Tryd.prog 62 os).forCall (fun _ _ => 0) ⟨#[], args, []⟩).memory :=
  laidMetH_of_parts3 (fuel := 8) (laidMet_of_run' 8 (by kernel_rfl) (by kernel_rfl)) (by kernel_rfl) (by kernel_rfl)
theorem tab0 {W : World} (h : laidMetH Tryd.prog Rows.codeWritesRow.laid W) : Lib.TabIs Tryd.prog W "internal/strconv.uint64pow10" .u64 Lib.pow10Tab := by
  rw [MakeChecks.laidMetH_plain _ _ _ (by kernel_rfl)] at h
  exact Lib.tabIs_of_head (g := 1) (by kernel_rfl) (by kernel_rfl) Tryd.underlying122 Tryd.underlying103 (by kernel_rfl) (by kernel_rfl) (show laidMet Tryd.prog (("internal/strconv.uint64pow10", Lib.tabData .u64 Lib.pow10Tab) :: _) W from h.tail.tail)
theorem cells144 : Tryd.prog.cellsOf 144 = 1 := by kernel_rfl
theorem cells9 : Tryd.prog.cellsOf 9 = 1 := by kernel_rfl
theorem star : "*" ++ "errors.errorString" = "*errors.errorString" := by decide
theorem row142 (u : TypeId) (h : Tryd.prog.typeName? 3 u = some "*errors.errorString") : u = 142 :=
  typeName_ptr_named (nm := "errors.errorString") (by rw [star]; kernel_rfl) (by kernel_rfl) (by decide) u (by rw [star]; exact h)
theorem gES : Tryd.prog.globalNamed "strconv.ErrSyntax" = some 2 := by kernel_rfl
theorem gEST : (Tryd.prog.globals[2]?).map (·.type) = some 52 := by kernel_rfl
theorem gER : Tryd.prog.globalNamed "strconv.ErrRange" = some 3 := by kernel_rfl
theorem gERT : (Tryd.prog.globals[3]?).map (·.type) = some 52 := by kernel_rfl
theorem ev_of {W : World} (h : laidMetH Tryd.prog Rows.codeWritesRow.laid W) : Ev W := by
  have ht := tab0 h
  rw [MakeChecks.laidMetH_plain _ _ _ (by kernel_rfl)] at h
  obtain ⟨a0, s0, hv0, -, -, -⟩ := laid_sentinel h.tail.tail.tail gER gERT Tryd.underlying52 row142 Tryd.underlying142 Tryd.underlying144 rfl rfl Tryd.underlying9 cells144 cells9
  obtain ⟨a1, s1, hv1, -, -, -⟩ := laid_sentinel h.tail.tail.tail.tail gES gEST Tryd.underlying52 row142 Tryd.underlying142 Tryd.underlying144 rfl rfl Tryd.underlying9 cells144 cells9
  exact ⟨ht, ⟨_, _, by have h0 := World.var?_cell gES hv1 0; simpa using h0⟩, _, _, by have h0 := World.var?_cell gER hv0 0; simpa using h0⟩
set_option maxRecDepth 100000 in
theorem lifted (os : Os) (started : os.Started) (H : Type) (enc : TypeId × Value → H) :
    ReturnsInHanded {} Tryd.checked os 3 .any (fun w args => (Rows.codeWritesSpec.pre enc Tryd.prog Tryd.f3 Rows.codeWritesRow.domain false w args ∧ laidMetH Tryd.prog Rows.codeWritesRow.laid w) ∧ sizedMet enc Tryd.prog Tryd.f3 (OpenSpec.ofChange Rows.codeWritesSpec) false w args) (Rows.codeWritesSpec.post enc Tryd.prog Tryd.f3 false true false false) := by
  refine returnsInHanded_of_change_and (C := Tryd.checked) (X := fun w _ => laidMetH Tryd.prog Rows.codeWritesRow.laid w) (fun _ _ _ hh h => h.of_heap hh) own started (by kernel_rfl) Tryd.func3
    (ChangeSpec.witness_shaped (enc := enc) (C := Tryd.checked) (os := os) (X := fun w _ => laidMetH Tryd.prog Rows.codeWritesRow.laid w) false (World.doorLaid Tryd.prog 62 os) #[.slice none 0 0] 8 rfl (World.shaped_of_RefB (by kernel_rfl) (by kernel_rfl)) (by kernel_rfl) (by kernel_rfl) (by kernel_rfl) (door_met os _)) ?_
  intro W base args ds gs before hval0 hW _ _ hL _
  have hval : ∀ (j : Nat) t v, Tryd.f3.params[j]? = some t → args[j]? = some v → Value.okWide Tryd.prog W .any base t v := hval0
  have hW' := hW
  obtain ⟨p, q, hA0, hV, rfl, hfz, hnd⟩ := hW
  have hA : DataW.TrodAll enc Tryd.prog W 0 (fun _ => true) true Tryd.f3.params.toList args.toList ds p := hA0
  rw [Tryd.params3] at hA hval
  obtain ⟨v0, vs0, d0, ds0, p0, q0, hargs, rfl, rfl, h0, r0⟩ := trodAll_cons hA
  obtain ⟨rfl, rfl, rfl⟩ := trodAll_nil r0
  obtain rfl : args = #[v0] := by cases args; simp_all
  obtain ⟨rfl, rfl⟩ := trodVars_none hV
  have k0 := h0
  have lt0 : ∀ x ∈ p0, x.block < W.heap.size := by obtain ⟨m, hm⟩ := k0; exact DataW.trod_lt m _ _ _ hm
  obtain ⟨b0, n0, cap0, rfl⟩ := okWide_slice Tryd.underlying22 (hval 0 22 v0 rfl rfl)
  obtain ⟨c0, A0, B0, hrow0⟩ := rows3 h0 lt0
  clear hA0 hval0
  refine (walk b0 n0 cap0 c0 A0 B0 W hrow0 (ev_of hL)).mono fun e W' ⟨he, bel⟩ => ?_
  subst he
  exact ⟨_, rfl, _, _, _, [], _, [], hW', trodAll_mk1 (shut_bool Tryd.underlying4 _), (trodAll_cons_mk (Below.trod laidOut (by kernel_rfl) (of_decide_eq_true (by kernel_rfl)) k0 bel lt0) trodAll_mk0), rfl, bel.frame _, fun h => by cases h⟩

theorem over : Rows.codeWritesRow.holds Tryd.pinned (OpenSpec.ofChange Rows.codeWritesSpec) :=
  OpenClaim.holds_of_wide 3 Tryd.f3 rfl rfl rfl rfl rfl rfl rfl ⟨rfl, rfl, rfl, rfl, rfl⟩ rfl rfl rfl rfl rfl (by kernel_rfl) Tryd.func3 (by kernel_rfl)
    (of_decide_eq_true (by kernel_rfl)) (by unfold Func.isWrapper; first | (rw [if_pos (by decide +kernel)]; kernel_rfl) | (rw [if_neg (by decide +kernel)]; exact ⟨rfl, rfl⟩))
    (fun os started H enc _ => lifted os started H enc)
/-- the statement: the tied card -/
theorem proved : Rows.CodeWritesCardSaid :=
  Claim7.holds_tied_plain_at .later [] [.data, .data, .data, .sentinel, .sentinel] true (true, "ead39c95c1cec9fa0e8306d047aedb6730988868eae33e106a3f13c3be63ff3f") true
    over (fun _ h => by cases h) (by kernel_rfl) (fun _ h => by cases h) codeWrites_row_tie rfl ⟨rfl, rfl⟩ (by kernel_rfl) rfl
    (fun f fn hf hfn => by
      obtain rfl : f = 3 := Option.some.inj ((show Tryd.prog.funcNamed Rows.codeWritesRow.func = some 3 by kernel_rfl).symm.trans hf) |>.symm
      obtain rfl : fn = Tryd.f3 := (Option.some.inj (Tryd.func3.symm.trans hfn)).symm
      exact ⟨by kernel_rfl, fun j t ht => by
        rw [Tryd.params3] at ht
        have hm : t ∈ [22] := by simpa using Array.mem_of_getElem? ht
        have hall : ([22].all fun u => !Tryd.prog.wantsStandIn u) = true := by kernel_rfl
        exact (show Tryd.prog.wantsStandIn t = false by simpa using List.all_eq_true.1 hall t hm)⟩)
    (by kernel_rfl)
end Go.Proofs.YteeljnlepbnhkaaDoor.codeWrites
