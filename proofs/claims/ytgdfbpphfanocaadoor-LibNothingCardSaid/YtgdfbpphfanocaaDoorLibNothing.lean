/-
  The statement LibNothing: nil containers, and zero ones, are empty and return ErrArg.
  Conditions: none beyond those of the given row.
-/
import Derived.Test.YtgdfbpphfanocaaDoorCards
import Derived.Test.YtgdfbpphfanocaaDoorHN
import Derived.Test.YtgdfbpphfanocaaDoorDG
import Derived.Test.YtgdfbpphfanocaaDoorTie
import Derived.SevenTiedAt
import Derived.Lib.LaidTab
import Derived.LaidMore
import Derived.Stop.Joined
import Derived.Stop.LaidErr
import Derived.ProofKit
import Derived.OpenShut
import Derived.ShutString
import Derived.ChangeOld
import Derived.Lib.SmallJoins
set_option linter.unusedVariables false
set_option linter.unusedSimpArgs false
namespace Go.Proofs.YtgdfbpphfanocaaDoor.libNothing
open Go.ChangeShapes Go.WideShapes Go.ChangeAt Go.RowKit Go.Joins
open Go.ChangeMaps (open_string shut_string)
open Ln Fw

set_option maxRecDepth 20000 in
set_option maxHeartbeats 4000000 in
theorem walk (o : Lc.O5) (w : World) (w0 : (Lit.int .i64 o.a).wf = true) (htab : Lib.TabIs Tryd.prog w "internal/strconv.uint64pow10" .u64 Lib.pow10Tab) :
    Calls Tryd.prog 4 #[.agg #[vI o.d, vI o.a, vI o.v, .bool o.f, .string o.s]] w fun e w' => e = .returned (.bool true) ∧ Below w.heap.size w w' := by
  have ha : -9223372036854775808 ≤ o.a ∧ o.a ≤ 9223372036854775807 := by have h := w0; simp only [Lit.wf, Bool.and_eq_true, decide_eq_true_eq] at h; rw [show IntKind.i64.min = -9223372036854775808 from by decide, show IntKind.i64.max = 9223372036854775807 from by decide] at h; exact h
  refine calls_of Tryd.func4 rfl (m := 178) rfl [(0, .agg #[vI o.d, vI o.a, vI o.v, .bool o.f, .string o.s])] (Fr_enter [.agg #[vI o.d, vI o.a, vI o.v, .bool o.f, .string o.s]] 178 (Nat.le_of_ble_eq_true rfl)) ?_
  have hH1 : HP Tr w w [] := HP.refl w
  refine WC.seq fun K2 hK2 => ?_
  refine WC.region ?_
  refine WL.alloc (c := #[vI o.d, vI o.a, vI o.v, .bool o.f, .string o.s]) (T := 31) hH1 1 rfl (by decide) rfl rfl (fun b3 => vP b3 0) (by kernel_rfl) (fun b3 w4 hw4 => ?_)
  have hH5 : HP Tr w w4 [.cel b3 #[vI o.d, vI o.a, vI o.v, .bool o.f, .string o.s] 31] := hw4.2
  have nb3 := hw4.1
  clear hw4
  refine WL.pure (v := .bool false) 2 rfl (Nat.le_of_ble_eq_true rfl) rfl rfl (by kernel_rfl) ?_
  refine WL.nil ?_
  refine WQ.then ?_
  refine hK2 _ _ _ ?_
  refine WC.seq fun K6 hK6 => ?_
  refine WC.region ?_
  refine WL.pure (v := .pointer none) 3 rfl (Nat.le_of_ble_eq_true rfl) rfl rfl (by kernel_rfl) ?_
  refine WL.nil ?_
  refine WQ.then ?_
  refine hK6 _ _ _ ?_
  refine WC.seq fun K7 hK7 => ?_
  refine WC.region ?_
  refine WL.pure (v := .pointer none) 4 rfl (Nat.le_of_ble_eq_true rfl) rfl rfl (by kernel_rfl) ?_
  refine WL.nil ?_
  refine WQ.then ?_
  refine hK7 _ _ _ ?_
  refine WC.seq fun K8 hK8 => ?_
  refine WC.region ?_
  refine WL.pure (v := .pointer none) 5 rfl (Nat.le_of_ble_eq_true rfl) rfl rfl (by kernel_rfl) ?_
  refine WL.nil ?_
  refine WQ.then ?_
  refine hK8 _ _ _ ?_
  refine WC.seq fun K9 hK9 => ?_
  refine WC.region ?_
  refine WL.pure (v := .pointer none) 6 rfl (Nat.le_of_ble_eq_true rfl) rfl rfl (by kernel_rfl) ?_
  refine WL.nil ?_
  refine WQ.then ?_
  refine hK9 _ _ _ ?_
  refine WC.seq fun K10 hK10 => ?_
  refine WC.seq fun K11 hK11 => ?_
  refine WC.region ?_
  refine WL.pure (v := vI 0) 7 rfl (Nat.le_of_ble_eq_true rfl) rfl rfl (by kernel_rfl) ?_
  refine WL.nil ?_
  refine WQ.then ?_
  refine hK11 _ _ _ ?_
  refine WC.block ?_
  refine WC.loop (fun kk0 ll0 ww0 => (kk0 = 2 ∧ ll0 = [(1, vP b3 0), (3, .pointer none), (4, .pointer none), (5, .pointer none), (6, .pointer none), (7, vI 0)] ∧ HP Tr w ww0 [.cel b3 #[vI o.d, vI o.a, vI o.v, .bool o.f, .string o.s] 31]) ∨ (∃ (tb lb sb bb : Nat), kk0 = 1 ∧ ll0 = [(1, vP b3 0), (3, vP tb 0), (4, vP lb 0), (5, vP sb 0), (6, vP bb 0), (7, vI 1)] ∧ HP Tr w ww0 [.cel b3 #[vI o.d, vI o.a, vI o.v, .bool o.f, .string o.s] 31, .cel tb #[.slice none 0 0] 54, .cel lb #[vI 0, .slice none 0 0] 58, .cel sb #[vI 0, .slice none 0 0] 59, .cel bb #[vI 0, .slice none 0 0] 62]) ∨ (kk0 = 0 ∧ ll0 = [(7, vI 2)] ∧ HP Tr w ww0 [])) 2 [(1, vP b3 0), (3, .pointer none), (4, .pointer none), (5, .pointer none), (6, .pointer none), (7, vI 0)] ⟨rfl, rfl, rfl, rfl, rfl, rfl, trivial⟩ (.inl ⟨rfl, rfl, hH5⟩) ?_
  rintro kk ll w3 (⟨hkk, rfl, hH3⟩ | ⟨tb, lb, sb, bb, hkk, rfl, hH3⟩ | ⟨hkk, rfl, hH3⟩) K3 hK3
  ·
    refine WC.seq fun K12 hK12 => ?_
    refine WC.seq fun K13 hK13 => ?_
    refine WC.region ?_
    refine WL.pure (v := vI 0) 26 rfl (Nat.le_of_ble_eq_true rfl) rfl rfl (by kernel_rfl) ?_
    refine WL.pure (v := .bool true) 27 rfl (Nat.le_of_ble_eq_true rfl) rfl rfl (x_lss rfl rfl rfl (by decide)) ?_
    refine WL.nil ?_
    refine WQ.then ?_
    refine hK13 _ _ _ ?_
    refine WC.yes rfl ?_
    refine WC.skip ?_
    refine WQ.then ?_
    refine hK12 _ _ _ ?_
    refine WC.seq fun K14 hK14 => ?_
    refine WC.block ?_
    refine WC.seq fun K15 hK15 => ?_
    refine WC.region ?_
    refine WL.pure (v := .pointer none) 31 rfl (Nat.le_of_ble_eq_true rfl) rfl rfl (by kernel_rfl) ?_
    refine WL.pure (v := vP b3 1) 32 rfl (Nat.le_of_ble_eq_true rfl) rfl rfl (by kernel_rfl) ?_
    refine WL.pure (v := vI o.a) 33 rfl (Nat.le_of_ble_eq_true rfl) rfl rfl (x_load rfl rfl Tryd.underlying3 rfl (HP.cell hH3 0 rfl rfl)) ?_
    refine WL.pure (v := vP b3 2) 34 rfl (Nat.le_of_ble_eq_true rfl) rfl rfl (by kernel_rfl) ?_
    refine WL.pure (v := vI o.v) 35 rfl (Nat.le_of_ble_eq_true rfl) rfl rfl (x_load rfl rfl Tryd.underlying3 rfl (HP.cell hH3 0 rfl rfl)) ?_
    refine WL.call (f := 14) (args := #[.pointer none, vI o.a, vI o.v]) 36 rfl (Nat.le_of_ble_eq_true rfl) rfl rfl (by kernel_rfl) ?_
    refine (tput_nil o.a o.v _).mono ?_
    rintro e w16 ⟨rfl, hb17⟩
    refine ⟨_, rfl, ?_⟩
    have hH18 : HP Tr w _ [.cel b3 #[vI o.d, vI o.a, vI o.v, .bool o.f, .string o.s] 31] := HP.call hH3 hb17
    refine WL.pure (v := .tuple #[vI 0, vI 1]) 30 rfl (Nat.le_of_ble_eq_true rfl) rfl rfl (by kernel_rfl) ?_
    refine WL.pure (v := vI 0) 37 rfl (Nat.le_of_ble_eq_true rfl) rfl rfl (by kernel_rfl) ?_
    refine WL.pure (v := vI 1) 38 rfl (Nat.le_of_ble_eq_true rfl) rfl rfl (by kernel_rfl) ?_
    refine WL.pure (v := vI 0) 8 rfl (Nat.le_of_ble_eq_true rfl) rfl rfl (by kernel_rfl) ?_
    refine WL.pure (v := vI 1) 9 rfl (Nat.le_of_ble_eq_true rfl) rfl rfl (by kernel_rfl) ?_
    refine WL.nil ?_
    refine WQ.then ?_
    refine hK15 _ _ _ ?_
    refine WC.sub (l' := [(1, vP b3 0), (3, .pointer none), (4, .pointer none), (5, .pointer none), (6, .pointer none), (7, vI 0), (9, vI 1), (27, .bool true)]) ⟨rfl, rfl, rfl, rfl, rfl, rfl, rfl, rfl, trivial⟩ ?_
    refine WC.seq fun K19 hK19 => ?_
    refine WC.region ?_
    refine WL.pure (v := .pointer none) 40 rfl (Nat.le_of_ble_eq_true rfl) rfl rfl (by kernel_rfl) ?_
    refine WL.pure (v := vP b3 1) 41 rfl (Nat.le_of_ble_eq_true rfl) rfl rfl (by kernel_rfl) ?_
    refine WL.pure (v := vI o.a) 42 rfl (Nat.le_of_ble_eq_true rfl) rfl rfl (x_load rfl rfl Tryd.underlying3 rfl (HP.cell hH18 0 rfl rfl)) ?_
    refine WL.call (f := 15) (args := #[.pointer none, vI o.a]) 43 rfl (Nat.le_of_ble_eq_true rfl) rfl rfl (by kernel_rfl) ?_
    refine (tget_nil o.a _).mono ?_
    rintro e w20 ⟨rfl, hb21⟩
    refine ⟨_, rfl, ?_⟩
    have hH22 : HP Tr w _ [.cel b3 #[vI o.d, vI o.a, vI o.v, .bool o.f, .string o.s] 31] := HP.call hH18 hb21
    refine WL.pure (v := .tuple #[vI 0, vI 0, vI 1]) 39 rfl (Nat.le_of_ble_eq_true rfl) rfl rfl (by kernel_rfl) ?_
    refine WL.pure (v := vI 0) 44 rfl (Nat.le_of_ble_eq_true rfl) rfl rfl (by kernel_rfl) ?_
    refine WL.pure (v := vI 0) 45 rfl (Nat.le_of_ble_eq_true rfl) rfl rfl (by kernel_rfl) ?_
    refine WL.pure (v := vI 1) 46 rfl (Nat.le_of_ble_eq_true rfl) rfl rfl (by kernel_rfl) ?_
    refine WL.pure (v := vI 0) 10 rfl (Nat.le_of_ble_eq_true rfl) rfl rfl (by kernel_rfl) ?_
    refine WL.pure (v := vI 0) 11 rfl (Nat.le_of_ble_eq_true rfl) rfl rfl (by kernel_rfl) ?_
    refine WL.pure (v := vI 1) 12 rfl (Nat.le_of_ble_eq_true rfl) rfl rfl (by kernel_rfl) ?_
    refine WL.nil ?_
    refine WQ.then ?_
    refine hK19 _ _ _ ?_
    refine WC.sub (l' := [(1, vP b3 0), (3, .pointer none), (4, .pointer none), (5, .pointer none), (6, .pointer none), (7, vI 0), (9, vI 1), (12, vI 1), (27, .bool true)]) ⟨rfl, rfl, rfl, rfl, rfl, rfl, rfl, rfl, rfl, trivial⟩ ?_
    refine WC.seq fun K23 hK23 => ?_
    refine WC.region ?_
    refine WL.pure (v := .pointer none) 48 rfl (Nat.le_of_ble_eq_true rfl) rfl rfl (by kernel_rfl) ?_
    refine WL.pure (v := vP b3 1) 49 rfl (Nat.le_of_ble_eq_true rfl) rfl rfl (by kernel_rfl) ?_
    refine WL.pure (v := vI o.a) 50 rfl (Nat.le_of_ble_eq_true rfl) rfl rfl (x_load rfl rfl Tryd.underlying3 rfl (HP.cell hH22 0 rfl rfl)) ?_
    refine WL.call (f := 16) (args := #[.pointer none, vI o.a]) 51 rfl (Nat.le_of_ble_eq_true rfl) rfl rfl (by kernel_rfl) ?_
    refine (tdel_nil o.a _).mono ?_
    rintro e w24 ⟨rfl, hb25⟩
    refine ⟨_, rfl, ?_⟩
    have hH26 : HP Tr w _ [.cel b3 #[vI o.d, vI o.a, vI o.v, .bool o.f, .string o.s] 31] := HP.call hH22 hb25
    refine WL.pure (v := .tuple #[vI 0, vI 1]) 47 rfl (Nat.le_of_ble_eq_true rfl) rfl rfl (by kernel_rfl) ?_
    refine WL.pure (v := vI 0) 52 rfl (Nat.le_of_ble_eq_true rfl) rfl rfl (by kernel_rfl) ?_
    refine WL.pure (v := vI 1) 53 rfl (Nat.le_of_ble_eq_true rfl) rfl rfl (by kernel_rfl) ?_
    refine WL.pure (v := vI 0) 13 rfl (Nat.le_of_ble_eq_true rfl) rfl rfl (by kernel_rfl) ?_
    refine WL.pure (v := vI 1) 14 rfl (Nat.le_of_ble_eq_true rfl) rfl rfl (by kernel_rfl) ?_
    refine WL.nil ?_
    refine WQ.then ?_
    refine hK23 _ _ _ ?_
    refine WC.sub (l' := [(1, vP b3 0), (3, .pointer none), (4, .pointer none), (5, .pointer none), (6, .pointer none), (7, vI 0), (9, vI 1), (12, vI 1), (14, vI 1), (27, .bool true)]) ⟨rfl, rfl, rfl, rfl, rfl, rfl, rfl, rfl, rfl, rfl, trivial⟩ ?_
    refine WC.seq fun K27 hK27 => ?_
    refine WC.region ?_
    refine WL.pure (v := .pointer none) 55 rfl (Nat.le_of_ble_eq_true rfl) rfl rfl (by kernel_rfl) ?_
    refine WL.pure (v := vP b3 3) 56 rfl (Nat.le_of_ble_eq_true rfl) rfl rfl (by kernel_rfl) ?_
    refine WL.pure (v := .bool o.f) 57 rfl (Nat.le_of_ble_eq_true rfl) rfl rfl (x_load rfl rfl Tryd.underlying4 rfl (HP.cell hH26 0 rfl rfl)) ?_
    refine WL.call (f := 17) (args := #[.pointer none, .bool o.f]) 58 rfl (Nat.le_of_ble_eq_true rfl) rfl rfl (by kernel_rfl) ?_
    refine (lpop_nil o.f _).mono ?_
    rintro e w28 ⟨rfl, hb29⟩
    refine ⟨_, rfl, ?_⟩
    have hH30 : HP Tr w _ [.cel b3 #[vI o.d, vI o.a, vI o.v, .bool o.f, .string o.s] 31] := HP.call hH26 hb29
    refine WL.pure (v := .tuple #[vI 0, vI 1]) 54 rfl (Nat.le_of_ble_eq_true rfl) rfl rfl (by kernel_rfl) ?_
    refine WL.pure (v := vI 0) 59 rfl (Nat.le_of_ble_eq_true rfl) rfl rfl (by kernel_rfl) ?_
    refine WL.pure (v := vI 1) 60 rfl (Nat.le_of_ble_eq_true rfl) rfl rfl (by kernel_rfl) ?_
    refine WL.pure (v := vI 0) 15 rfl (Nat.le_of_ble_eq_true rfl) rfl rfl (by kernel_rfl) ?_
    refine WL.pure (v := vI 1) 16 rfl (Nat.le_of_ble_eq_true rfl) rfl rfl (by kernel_rfl) ?_
    refine WL.nil ?_
    refine WQ.then ?_
    refine hK27 _ _ _ ?_
    refine WC.sub (l' := [(1, vP b3 0), (3, .pointer none), (4, .pointer none), (5, .pointer none), (6, .pointer none), (7, vI 0), (9, vI 1), (12, vI 1), (14, vI 1), (16, vI 1), (27, .bool true)]) ⟨rfl, rfl, rfl, rfl, rfl, rfl, rfl, rfl, rfl, rfl, rfl, trivial⟩ ?_
    refine WC.seq fun K31 hK31 => ?_
    refine WC.region ?_
    refine WL.pure (v := .pointer none) 62 rfl (Nat.le_of_ble_eq_true rfl) rfl rfl (by kernel_rfl) ?_
    refine WL.pure (v := vP b3 1) 63 rfl (Nat.le_of_ble_eq_true rfl) rfl rfl (by kernel_rfl) ?_
    refine WL.pure (v := vI o.a) 64 rfl (Nat.le_of_ble_eq_true rfl) rfl rfl (x_load rfl rfl Tryd.underlying3 rfl (HP.cell hH30 0 rfl rfl)) ?_
    refine WL.call (f := 18) (args := #[.pointer none, vI o.a]) 65 rfl (Nat.le_of_ble_eq_true rfl) rfl rfl (by kernel_rfl) ?_
    refine (lat_nil o.a _).mono ?_
    rintro e w32 ⟨rfl, hb33⟩
    refine ⟨_, rfl, ?_⟩
    have hH34 : HP Tr w _ [.cel b3 #[vI o.d, vI o.a, vI o.v, .bool o.f, .string o.s] 31] := HP.call hH30 hb33
    refine WL.pure (v := .tuple #[vI 0, vI 1]) 61 rfl (Nat.le_of_ble_eq_true rfl) rfl rfl (by kernel_rfl) ?_
    refine WL.pure (v := vI 0) 66 rfl (Nat.le_of_ble_eq_true rfl) rfl rfl (by kernel_rfl) ?_
    refine WL.pure (v := vI 1) 67 rfl (Nat.le_of_ble_eq_true rfl) rfl rfl (by kernel_rfl) ?_
    refine WL.pure (v := vI 0) 17 rfl (Nat.le_of_ble_eq_true rfl) rfl rfl (by kernel_rfl) ?_
    refine WL.pure (v := vI 1) 18 rfl (Nat.le_of_ble_eq_true rfl) rfl rfl (by kernel_rfl) ?_
    refine WL.nil ?_
    refine WQ.then ?_
    refine hK31 _ _ _ ?_
    refine WC.sub (l' := [(1, vP b3 0), (3, .pointer none), (4, .pointer none), (5, .pointer none), (6, .pointer none), (7, vI 0), (9, vI 1), (12, vI 1), (14, vI 1), (16, vI 1), (18, vI 1), (27, .bool true)]) ⟨rfl, rfl, rfl, rfl, rfl, rfl, rfl, rfl, rfl, rfl, rfl, rfl, trivial⟩ ?_
    refine WC.seq fun K35 hK35 => ?_
    refine WC.region ?_
    refine WL.pure (v := .pointer none) 69 rfl (Nat.le_of_ble_eq_true rfl) rfl rfl (by kernel_rfl) ?_
    refine WL.pure (v := vP b3 1) 70 rfl (Nat.le_of_ble_eq_true rfl) rfl rfl (by kernel_rfl) ?_
    refine WL.pure (v := vI o.a) 71 rfl (Nat.le_of_ble_eq_true rfl) rfl rfl (x_load rfl rfl Tryd.underlying3 rfl (HP.cell hH34 0 rfl rfl)) ?_
    refine WL.call (f := 19) (args := #[.pointer none, vI o.a]) 72 rfl (Nat.le_of_ble_eq_true rfl) rfl rfl (by kernel_rfl) ?_
    refine (sins_nil o.a _).mono ?_
    rintro e w36 ⟨rfl, hb37⟩
    refine ⟨_, rfl, ?_⟩
    have hH38 : HP Tr w _ [.cel b3 #[vI o.d, vI o.a, vI o.v, .bool o.f, .string o.s] 31] := HP.call hH34 hb37
    refine WL.pure (v := .tuple #[vI 0, vI 1]) 68 rfl (Nat.le_of_ble_eq_true rfl) rfl rfl (by kernel_rfl) ?_
    refine WL.pure (v := vI 0) 73 rfl (Nat.le_of_ble_eq_true rfl) rfl rfl (by kernel_rfl) ?_
    refine WL.pure (v := vI 1) 74 rfl (Nat.le_of_ble_eq_true rfl) rfl rfl (by kernel_rfl) ?_
    refine WL.pure (v := vI 0) 19 rfl (Nat.le_of_ble_eq_true rfl) rfl rfl (by kernel_rfl) ?_
    refine WL.pure (v := vI 1) 20 rfl (Nat.le_of_ble_eq_true rfl) rfl rfl (by kernel_rfl) ?_
    refine WL.nil ?_
    refine WQ.then ?_
    refine hK35 _ _ _ ?_
    refine WC.sub (l' := [(1, vP b3 0), (3, .pointer none), (4, .pointer none), (5, .pointer none), (6, .pointer none), (7, vI 0), (9, vI 1), (12, vI 1), (14, vI 1), (16, vI 1), (18, vI 1), (20, vI 1), (27, .bool true)]) ⟨rfl, rfl, rfl, rfl, rfl, rfl, rfl, rfl, rfl, rfl, rfl, rfl, rfl, trivial⟩ ?_
    refine WC.seq fun K39 hK39 => ?_
    refine WC.region ?_
    refine WL.pure (v := .pointer none) 76 rfl (Nat.le_of_ble_eq_true rfl) rfl rfl (by kernel_rfl) ?_
    refine WL.pure (v := vP b3 1) 77 rfl (Nat.le_of_ble_eq_true rfl) rfl rfl (by kernel_rfl) ?_
    refine WL.pure (v := vI o.a) 78 rfl (Nat.le_of_ble_eq_true rfl) rfl rfl (x_load rfl rfl Tryd.underlying3 rfl (HP.cell hH38 0 rfl rfl)) ?_
    refine WL.call (f := 20) (args := #[.pointer none, vI o.a]) 79 rfl (Nat.le_of_ble_eq_true rfl) rfl rfl (by kernel_rfl) ?_
    refine (srem_nil o.a _).mono ?_
    rintro e w40 ⟨rfl, hb41⟩
    refine ⟨_, rfl, ?_⟩
    have hH42 : HP Tr w _ [.cel b3 #[vI o.d, vI o.a, vI o.v, .bool o.f, .string o.s] 31] := HP.call hH38 hb41
    refine WL.pure (v := .tuple #[vI 0, vI 1]) 75 rfl (Nat.le_of_ble_eq_true rfl) rfl rfl (by kernel_rfl) ?_
    refine WL.pure (v := vI 0) 80 rfl (Nat.le_of_ble_eq_true rfl) rfl rfl (by kernel_rfl) ?_
    refine WL.pure (v := vI 1) 81 rfl (Nat.le_of_ble_eq_true rfl) rfl rfl (by kernel_rfl) ?_
    refine WL.pure (v := vI 0) 21 rfl (Nat.le_of_ble_eq_true rfl) rfl rfl (by kernel_rfl) ?_
    refine WL.pure (v := vI 1) 22 rfl (Nat.le_of_ble_eq_true rfl) rfl rfl (by kernel_rfl) ?_
    refine WL.nil ?_
    refine WQ.then ?_
    refine hK39 _ _ _ ?_
    refine WC.sub (l' := [(1, vP b3 0), (3, .pointer none), (4, .pointer none), (5, .pointer none), (6, .pointer none), (7, vI 0), (9, vI 1), (12, vI 1), (14, vI 1), (16, vI 1), (18, vI 1), (20, vI 1), (22, vI 1), (27, .bool true)]) ⟨rfl, rfl, rfl, rfl, rfl, rfl, rfl, rfl, rfl, rfl, rfl, rfl, rfl, rfl, trivial⟩ ?_
    refine WC.seq fun K43 hK43 => ?_
    refine WC.region ?_
    refine WL.pure (v := .pointer none) 83 rfl (Nat.le_of_ble_eq_true rfl) rfl rfl (by kernel_rfl) ?_
    refine WL.pure (v := vP b3 1) 84 rfl (Nat.le_of_ble_eq_true rfl) rfl rfl (by kernel_rfl) ?_
    refine WL.pure (v := vI o.a) 85 rfl (Nat.le_of_ble_eq_true rfl) rfl rfl (x_load rfl rfl Tryd.underlying3 rfl (HP.cell hH42 0 rfl rfl)) ?_
    refine WL.call (f := 21) (args := #[.pointer none, vI o.a]) 86 rfl (Nat.le_of_ble_eq_true rfl) rfl rfl (by kernel_rfl) ?_
    refine (sfnd_nil o.a _).mono ?_
    rintro e w44 ⟨rfl, hb45⟩
    refine ⟨_, rfl, ?_⟩
    have hH46 : HP Tr w _ [.cel b3 #[vI o.d, vI o.a, vI o.v, .bool o.f, .string o.s] 31] := HP.call hH42 hb45
    refine WL.pure (v := .tuple #[vI 0, vI 0, vI 1]) 82 rfl (Nat.le_of_ble_eq_true rfl) rfl rfl (by kernel_rfl) ?_
    refine WL.pure (v := vI 0) 87 rfl (Nat.le_of_ble_eq_true rfl) rfl rfl (by kernel_rfl) ?_
    refine WL.pure (v := vI 0) 88 rfl (Nat.le_of_ble_eq_true rfl) rfl rfl (by kernel_rfl) ?_
    refine WL.pure (v := vI 1) 89 rfl (Nat.le_of_ble_eq_true rfl) rfl rfl (by kernel_rfl) ?_
    refine WL.pure (v := vI 0) 23 rfl (Nat.le_of_ble_eq_true rfl) rfl rfl (by kernel_rfl) ?_
    refine WL.pure (v := vI 0) 24 rfl (Nat.le_of_ble_eq_true rfl) rfl rfl (by kernel_rfl) ?_
    refine WL.pure (v := vI 1) 25 rfl (Nat.le_of_ble_eq_true rfl) rfl rfl (by kernel_rfl) ?_
    refine WL.nil ?_
    refine WQ.then ?_
    refine hK43 _ _ _ ?_
    refine WC.sub (l' := [(1, vP b3 0), (3, .pointer none), (4, .pointer none), (5, .pointer none), (6, .pointer none), (7, vI 0), (9, vI 1), (12, vI 1), (14, vI 1), (16, vI 1), (18, vI 1), (20, vI 1), (22, vI 1), (25, vI 1), (27, .bool true)]) ⟨rfl, rfl, rfl, rfl, rfl, rfl, rfl, rfl, rfl, rfl, rfl, rfl, rfl, rfl, rfl, trivial⟩ ?_
    refine WC.seq fun K47 hK47 => ?_
    refine WC.seq fun K48 hK48 => ?_
    refine WC.region ?_
    refine WL.pure (v := vI 1) 90 rfl (Nat.le_of_ble_eq_true rfl) rfl rfl (by kernel_rfl) ?_
    refine WL.pure (v := .bool false) 91 rfl (Nat.le_of_ble_eq_true rfl) rfl rfl (x_neq rfl rfl rfl (by decide)) ?_
    refine WL.pure (v := .bool false) 92 rfl (Nat.le_of_ble_eq_true rfl) rfl rfl (by kernel_rfl) ?_
    refine WL.pure (v := vI 1) 93 rfl (Nat.le_of_ble_eq_true rfl) rfl rfl (by kernel_rfl) ?_
    refine WL.pure (v := .bool false) 94 rfl (Nat.le_of_ble_eq_true rfl) rfl rfl (x_neq rfl rfl rfl (by decide)) ?_
    refine WL.pure (v := .bool false) 95 rfl (Nat.le_of_ble_eq_true rfl) rfl rfl (by kernel_rfl) ?_
    refine WL.pure (v := .bool false) 96 rfl (Nat.le_of_ble_eq_true rfl) rfl rfl (by kernel_rfl) ?_
    refine WL.pure (v := vI 1) 97 rfl (Nat.le_of_ble_eq_true rfl) rfl rfl (by kernel_rfl) ?_
    refine WL.pure (v := .bool false) 98 rfl (Nat.le_of_ble_eq_true rfl) rfl rfl (x_neq rfl rfl rfl (by decide)) ?_
    refine WL.pure (v := .bool false) 99 rfl (Nat.le_of_ble_eq_true rfl) rfl rfl (by kernel_rfl) ?_
    refine WL.pure (v := .bool false) 100 rfl (Nat.le_of_ble_eq_true rfl) rfl rfl (by kernel_rfl) ?_
    refine WL.pure (v := vI 1) 101 rfl (Nat.le_of_ble_eq_true rfl) rfl rfl (by kernel_rfl) ?_
    refine WL.pure (v := .bool false) 102 rfl (Nat.le_of_ble_eq_true rfl) rfl rfl (x_neq rfl rfl rfl (by decide)) ?_
    refine WL.pure (v := .bool false) 103 rfl (Nat.le_of_ble_eq_true rfl) rfl rfl (by kernel_rfl) ?_
    refine WL.pure (v := .bool false) 104 rfl (Nat.le_of_ble_eq_true rfl) rfl rfl (by kernel_rfl) ?_
    refine WL.pure (v := vI 1) 105 rfl (Nat.le_of_ble_eq_true rfl) rfl rfl (by kernel_rfl) ?_
    refine WL.pure (v := .bool false) 106 rfl (Nat.le_of_ble_eq_true rfl) rfl rfl (x_neq rfl rfl rfl (by decide)) ?_
    refine WL.pure (v := .bool false) 107 rfl (Nat.le_of_ble_eq_true rfl) rfl rfl (by kernel_rfl) ?_
    refine WL.pure (v := .bool false) 108 rfl (Nat.le_of_ble_eq_true rfl) rfl rfl (by kernel_rfl) ?_
    refine WL.pure (v := vI 1) 109 rfl (Nat.le_of_ble_eq_true rfl) rfl rfl (by kernel_rfl) ?_
    refine WL.pure (v := .bool false) 110 rfl (Nat.le_of_ble_eq_true rfl) rfl rfl (x_neq rfl rfl rfl (by decide)) ?_
    refine WL.pure (v := .bool false) 111 rfl (Nat.le_of_ble_eq_true rfl) rfl rfl (by kernel_rfl) ?_
    refine WL.pure (v := .bool false) 112 rfl (Nat.le_of_ble_eq_true rfl) rfl rfl (by kernel_rfl) ?_
    refine WL.pure (v := vI 1) 113 rfl (Nat.le_of_ble_eq_true rfl) rfl rfl (by kernel_rfl) ?_
    refine WL.pure (v := .bool false) 114 rfl (Nat.le_of_ble_eq_true rfl) rfl rfl (x_neq rfl rfl rfl (by decide)) ?_
    refine WL.pure (v := .bool false) 115 rfl (Nat.le_of_ble_eq_true rfl) rfl rfl (by kernel_rfl) ?_
    refine WL.pure (v := .bool false) 116 rfl (Nat.le_of_ble_eq_true rfl) rfl rfl (by kernel_rfl) ?_
    refine WL.pure (v := vI 1) 117 rfl (Nat.le_of_ble_eq_true rfl) rfl rfl (by kernel_rfl) ?_
    refine WL.pure (v := .bool false) 118 rfl (Nat.le_of_ble_eq_true rfl) rfl rfl (x_neq rfl rfl rfl (by decide)) ?_
    refine WL.pure (v := .bool false) 119 rfl (Nat.le_of_ble_eq_true rfl) rfl rfl (by kernel_rfl) ?_
    refine WL.nil ?_
    refine WQ.then ?_
    refine hK48 _ _ _ ?_
    refine WC.sub (l' := [(1, vP b3 0), (3, .pointer none), (4, .pointer none), (5, .pointer none), (6, .pointer none), (7, vI 0), (9, vI 1), (12, vI 1), (14, vI 1), (16, vI 1), (18, vI 1), (20, vI 1), (22, vI 1), (25, vI 1), (27, .bool true), (119, .bool false)]) ⟨rfl, rfl, rfl, rfl, rfl, rfl, rfl, rfl, rfl, rfl, rfl, rfl, rfl, rfl, rfl, rfl, trivial⟩ ?_
    refine WC.no rfl ?_
    refine WC.skip ?_
    refine WQ.then ?_
    refine hK47 _ _ _ ?_
    refine WC.seq fun K49 hK49 => ?_
    refine WC.seq fun K50 hK50 => ?_
    refine WC.region ?_
    refine WL.pure (v := .pointer none) 120 rfl (Nat.le_of_ble_eq_true rfl) rfl rfl (by kernel_rfl) ?_
    refine WL.pure (v := vP b3 1) 121 rfl (Nat.le_of_ble_eq_true rfl) rfl rfl (by kernel_rfl) ?_
    refine WL.pure (v := vI o.a) 122 rfl (Nat.le_of_ble_eq_true rfl) rfl rfl (x_load rfl rfl Tryd.underlying3 rfl (HP.cell hH46 0 rfl rfl)) ?_
    refine WL.pure (v := vP b3 3) 123 rfl (Nat.le_of_ble_eq_true rfl) rfl rfl (by kernel_rfl) ?_
    refine WL.pure (v := .bool o.f) 124 rfl (Nat.le_of_ble_eq_true rfl) rfl rfl (x_load rfl rfl Tryd.underlying4 rfl (HP.cell hH46 0 rfl rfl)) ?_
    refine WL.call (f := 22) (args := #[.pointer none, vI o.a, .bool o.f]) 125 rfl (Nat.le_of_ble_eq_true rfl) rfl rfl (by kernel_rfl) ?_
    refine (lpush_nil o.a o.f _).mono ?_
    rintro e w51 ⟨rfl, hb52⟩
    refine ⟨_, rfl, ?_⟩
    have hH53 : HP Tr w _ [.cel b3 #[vI o.d, vI o.a, vI o.v, .bool o.f, .string o.s] 31] := HP.call hH46 hb52
    refine WL.pure (v := .bool false) 126 rfl (Nat.le_of_ble_eq_true rfl) rfl rfl (x_neq rfl rfl rfl (by decide)) ?_
    refine WL.pure (v := .bool false) 127 rfl (Nat.le_of_ble_eq_true rfl) rfl rfl (by kernel_rfl) ?_
    refine WL.pure (v := .pointer none) 128 rfl (Nat.le_of_ble_eq_true rfl) rfl rfl (by kernel_rfl) ?_
    refine WL.pure (v := vP b3 4) 129 rfl (Nat.le_of_ble_eq_true rfl) rfl rfl (by kernel_rfl) ?_
    refine WL.pure (v := .string o.s) 130 rfl (Nat.le_of_ble_eq_true rfl) rfl rfl (x_load rfl rfl Tryd.underlying9 rfl (HP.cell hH53 0 rfl rfl)) ?_
    refine WL.call (f := 7) (args := #[.pointer none, .string o.s]) 131 rfl (Nat.le_of_ble_eq_true rfl) rfl rfl (by kernel_rfl) ?_
    refine (bwrite_nil o.s _).mono ?_
    rintro e w54 ⟨rfl, hb55⟩
    refine ⟨_, rfl, ?_⟩
    have hH56 : HP Tr w _ [.cel b3 #[vI o.d, vI o.a, vI o.v, .bool o.f, .string o.s] 31] := HP.call hH53 hb55
    refine WL.pure (v := .bool false) 132 rfl (Nat.le_of_ble_eq_true rfl) rfl rfl (x_neq rfl rfl rfl (by decide)) ?_
    refine WL.pure (v := .bool false) 133 rfl (Nat.le_of_ble_eq_true rfl) rfl rfl (by kernel_rfl) ?_
    refine WL.pure (v := .bool false) 134 rfl (Nat.le_of_ble_eq_true rfl) rfl rfl (by kernel_rfl) ?_
    refine WL.pure (v := .pointer none) 135 rfl (Nat.le_of_ble_eq_true rfl) rfl rfl (by kernel_rfl) ?_
    refine WL.pure (v := vP b3 1) 136 rfl (Nat.le_of_ble_eq_true rfl) rfl rfl (by kernel_rfl) ?_
    refine WL.pure (v := vI o.a) 137 rfl (Nat.le_of_ble_eq_true rfl) rfl rfl (x_load rfl rfl Tryd.underlying3 rfl (HP.cell hH56 0 rfl rfl)) ?_
    have htab2 := Lib.TabBelow.here ((Lib.tabBelow_of_tabIs htab).on (HP.below hH56))
    refine WL.call (f := 9) (args := #[.pointer none, vI o.a]) 138 rfl (Nat.le_of_ble_eq_true rfl) rfl rfl (by kernel_rfl) ?_
    refine (bint_nil o.a _ ha htab2).mono ?_
    rintro e w57 ⟨rfl, hb58⟩
    refine ⟨_, rfl, ?_⟩
    have hH59 : HP Tr w _ [.cel b3 #[vI o.d, vI o.a, vI o.v, .bool o.f, .string o.s] 31] := HP.call hH56 hb58
    refine WL.pure (v := .bool false) 139 rfl (Nat.le_of_ble_eq_true rfl) rfl rfl (x_neq rfl rfl rfl (by decide)) ?_
    refine WL.pure (v := .bool false) 140 rfl (Nat.le_of_ble_eq_true rfl) rfl rfl (by kernel_rfl) ?_
    refine WL.pure (v := .bool false) 141 rfl (Nat.le_of_ble_eq_true rfl) rfl rfl (by kernel_rfl) ?_
    refine WL.pure (v := .pointer none) 142 rfl (Nat.le_of_ble_eq_true rfl) rfl rfl (by kernel_rfl) ?_
    refine WL.call (f := 23) (args := #[.pointer none]) 143 rfl (Nat.le_of_ble_eq_true rfl) rfl rfl (by kernel_rfl) ?_
    refine (tlen_nil _).mono ?_
    rintro e w60 ⟨rfl, hb61⟩
    refine ⟨_, rfl, ?_⟩
    have hH62 : HP Tr w _ [.cel b3 #[vI o.d, vI o.a, vI o.v, .bool o.f, .string o.s] 31] := HP.call hH59 hb61
    refine WL.pure (v := .bool false) 144 rfl (Nat.le_of_ble_eq_true rfl) rfl rfl (x_neq rfl rfl rfl (by decide)) ?_
    refine WL.pure (v := .bool false) 145 rfl (Nat.le_of_ble_eq_true rfl) rfl rfl (by kernel_rfl) ?_
    refine WL.pure (v := .bool false) 146 rfl (Nat.le_of_ble_eq_true rfl) rfl rfl (by kernel_rfl) ?_
    refine WL.pure (v := .pointer none) 147 rfl (Nat.le_of_ble_eq_true rfl) rfl rfl (by kernel_rfl) ?_
    refine WL.call (f := 24) (args := #[.pointer none]) 148 rfl (Nat.le_of_ble_eq_true rfl) rfl rfl (by kernel_rfl) ?_
    refine (tcells_nil _).mono ?_
    rintro e w63 ⟨rfl, hb64⟩
    refine ⟨_, rfl, ?_⟩
    have hH65 : HP Tr w _ [.cel b3 #[vI o.d, vI o.a, vI o.v, .bool o.f, .string o.s] 31] := HP.call hH62 hb64
    refine WL.pure (v := vI 0) 149 rfl (Nat.le_of_ble_eq_true rfl) rfl rfl (by kernel_rfl) ?_
    refine WL.pure (v := .bool false) 150 rfl (Nat.le_of_ble_eq_true rfl) rfl rfl (x_neq rfl rfl rfl (by decide)) ?_
    refine WL.pure (v := .bool false) 151 rfl (Nat.le_of_ble_eq_true rfl) rfl rfl (by kernel_rfl) ?_
    refine WL.pure (v := .bool false) 152 rfl (Nat.le_of_ble_eq_true rfl) rfl rfl (by kernel_rfl) ?_
    refine WL.pure (v := .pointer none) 153 rfl (Nat.le_of_ble_eq_true rfl) rfl rfl (by kernel_rfl) ?_
    refine WL.call (f := 25) (args := #[.pointer none]) 154 rfl (Nat.le_of_ble_eq_true rfl) rfl rfl (by kernel_rfl) ?_
    refine (litems_nil _).mono ?_
    rintro e w66 ⟨rfl, hb67⟩
    refine ⟨_, rfl, ?_⟩
    have hH68 : HP Tr w _ [.cel b3 #[vI o.d, vI o.a, vI o.v, .bool o.f, .string o.s] 31] := HP.call hH65 hb67
    refine WL.pure (v := vI 0) 155 rfl (Nat.le_of_ble_eq_true rfl) rfl rfl (by kernel_rfl) ?_
    refine WL.pure (v := .bool false) 156 rfl (Nat.le_of_ble_eq_true rfl) rfl rfl (x_neq rfl rfl rfl (by decide)) ?_
    refine WL.pure (v := .bool false) 157 rfl (Nat.le_of_ble_eq_true rfl) rfl rfl (by kernel_rfl) ?_
    refine WL.pure (v := .bool false) 158 rfl (Nat.le_of_ble_eq_true rfl) rfl rfl (by kernel_rfl) ?_
    refine WL.pure (v := .pointer none) 159 rfl (Nat.le_of_ble_eq_true rfl) rfl rfl (by kernel_rfl) ?_
    refine WL.call (f := 26) (args := #[.pointer none]) 160 rfl (Nat.le_of_ble_eq_true rfl) rfl rfl (by kernel_rfl) ?_
    refine (sitems_nil _).mono ?_
    rintro e w69 ⟨rfl, hb70⟩
    refine ⟨_, rfl, ?_⟩
    have hH71 : HP Tr w _ [.cel b3 #[vI o.d, vI o.a, vI o.v, .bool o.f, .string o.s] 31] := HP.call hH68 hb70
    refine WL.pure (v := vI 0) 161 rfl (Nat.le_of_ble_eq_true rfl) rfl rfl (by kernel_rfl) ?_
    refine WL.pure (v := .bool false) 162 rfl (Nat.le_of_ble_eq_true rfl) rfl rfl (x_neq rfl rfl rfl (by decide)) ?_
    refine WL.pure (v := .bool false) 163 rfl (Nat.le_of_ble_eq_true rfl) rfl rfl (by kernel_rfl) ?_
    refine WL.pure (v := .bool false) 164 rfl (Nat.le_of_ble_eq_true rfl) rfl rfl (by kernel_rfl) ?_
    refine WL.pure (v := .pointer none) 165 rfl (Nat.le_of_ble_eq_true rfl) rfl rfl (by kernel_rfl) ?_
    refine WL.call (f := 11) (args := #[.pointer none]) 166 rfl (Nat.le_of_ble_eq_true rfl) rfl rfl (by kernel_rfl) ?_
    refine (btext_nil _).mono ?_
    rintro e w72 ⟨rfl, hb73⟩
    refine ⟨_, rfl, ?_⟩
    have hH74 : HP Tr w _ [.cel b3 #[vI o.d, vI o.a, vI o.v, .bool o.f, .string o.s] 31] := HP.call hH71 hb73
    refine WL.pure (v := .bool false) 167 rfl (Nat.le_of_ble_eq_true rfl) rfl rfl (x_neqs rfl rfl rfl (dF (fun h => h rfl))) ?_
    refine WL.pure (v := .bool false) 168 rfl (Nat.le_of_ble_eq_true rfl) rfl rfl (by kernel_rfl) ?_
    refine WL.nil ?_
    refine WQ.then ?_
    refine hK50 _ _ _ ?_
    refine WC.sub (l' := [(1, vP b3 0), (3, .pointer none), (4, .pointer none), (5, .pointer none), (6, .pointer none), (7, vI 0), (9, vI 1), (12, vI 1), (14, vI 1), (16, vI 1), (18, vI 1), (20, vI 1), (22, vI 1), (25, vI 1), (27, .bool true), (119, .bool false), (168, .bool false)]) ⟨rfl, rfl, rfl, rfl, rfl, rfl, rfl, rfl, rfl, rfl, rfl, rfl, rfl, rfl, rfl, rfl, rfl, trivial⟩ ?_
    refine WC.no rfl ?_
    refine WC.skip ?_
    refine WQ.then ?_
    refine hK49 _ _ _ ?_
    refine WC.region ?_
    refine WL.pure (v := .agg #[.slice none 0 0]) 169 rfl (Nat.le_of_ble_eq_true rfl) rfl rfl (by kernel_rfl) ?_
    refine WL.alloc (c := #[.slice none 0 0]) (T := 54) hH74 170 rfl (by decide) rfl rfl (fun b75 => vP b75 0) (by kernel_rfl) (fun b75 w76 hw76 => ?_)
    have hH77 : HP Tr w w76 [.cel b3 #[vI o.d, vI o.a, vI o.v, .bool o.f, .string o.s] 31, .cel b75 #[.slice none 0 0] 54] := hw76.2
    have nb75 := hw76.1
    clear hw76
    refine WL.pure (v := .agg #[vI 0, .slice none 0 0]) 171 rfl (Nat.le_of_ble_eq_true rfl) rfl rfl (by kernel_rfl) ?_
    refine WL.alloc (c := #[vI 0, .slice none 0 0]) (T := 58) hH77 172 rfl (by decide) rfl rfl (fun b78 => vP b78 0) (by kernel_rfl) (fun b78 w79 hw79 => ?_)
    have hH80 : HP Tr w w79 [.cel b3 #[vI o.d, vI o.a, vI o.v, .bool o.f, .string o.s] 31, .cel b75 #[.slice none 0 0] 54, .cel b78 #[vI 0, .slice none 0 0] 58] := hw79.2
    have nb78 := hw79.1
    clear hw79
    refine WL.pure (v := .agg #[vI 0, .slice none 0 0]) 173 rfl (Nat.le_of_ble_eq_true rfl) rfl rfl (by kernel_rfl) ?_
    refine WL.alloc (c := #[vI 0, .slice none 0 0]) (T := 59) hH80 174 rfl (by decide) rfl rfl (fun b81 => vP b81 0) (by kernel_rfl) (fun b81 w82 hw82 => ?_)
    have hH83 : HP Tr w w82 [.cel b3 #[vI o.d, vI o.a, vI o.v, .bool o.f, .string o.s] 31, .cel b75 #[.slice none 0 0] 54, .cel b78 #[vI 0, .slice none 0 0] 58, .cel b81 #[vI 0, .slice none 0 0] 59] := hw82.2
    have nb81 := hw82.1
    clear hw82
    refine WL.pure (v := .agg #[vI 0, .slice none 0 0]) 175 rfl (Nat.le_of_ble_eq_true rfl) rfl rfl (by kernel_rfl) ?_
    refine WL.alloc (c := #[vI 0, .slice none 0 0]) (T := 62) hH83 176 rfl (by decide) rfl rfl (fun b84 => vP b84 0) (by kernel_rfl) (fun b84 w85 hw85 => ?_)
    have hH86 : HP Tr w w85 [.cel b3 #[vI o.d, vI o.a, vI o.v, .bool o.f, .string o.s] 31, .cel b75 #[.slice none 0 0] 54, .cel b78 #[vI 0, .slice none 0 0] 58, .cel b81 #[vI 0, .slice none 0 0] 59, .cel b84 #[vI 0, .slice none 0 0] 62] := hw85.2
    have nb84 := hw85.1
    clear hw85
    refine WL.pure (v := vP b75 0) 3 rfl (Nat.le_of_ble_eq_true rfl) rfl rfl (by kernel_rfl) ?_
    refine WL.pure (v := vP b78 0) 4 rfl (Nat.le_of_ble_eq_true rfl) rfl rfl (by kernel_rfl) ?_
    refine WL.pure (v := vP b81 0) 5 rfl (Nat.le_of_ble_eq_true rfl) rfl rfl (by kernel_rfl) ?_
    refine WL.pure (v := vP b84 0) 6 rfl (Nat.le_of_ble_eq_true rfl) rfl rfl (by kernel_rfl) ?_
    refine WL.nil ?_
    refine WQ.inNormal ?_
    refine WQ.then ?_
    refine hK14 _ _ _ ?_
    refine WC.sub (l' := [(1, vP b3 0), (3, vP b75 0), (4, vP b78 0), (5, vP b81 0), (6, vP b84 0), (7, vI 0), (9, vI 1), (12, vI 1), (14, vI 1), (16, vI 1), (18, vI 1), (20, vI 1), (22, vI 1), (25, vI 1), (27, .bool true), (119, .bool false), (168, .bool false)]) ⟨rfl, rfl, rfl, rfl, rfl, rfl, rfl, rfl, rfl, rfl, rfl, rfl, rfl, rfl, rfl, rfl, rfl, trivial⟩ ?_
    refine WC.region ?_
    refine WL.pure (v := vI 0) 28 rfl (Nat.le_of_ble_eq_true rfl) rfl rfl (by kernel_rfl) ?_
    refine WL.pure (v := vI 1) 29 rfl (Nat.le_of_ble_eq_true rfl) rfl rfl (x_add (Z := 1) rfl rfl rfl (by omega) (by omega) (by omega)) ?_
    refine WL.pure (v := vI 1) 7 rfl (Nat.le_of_ble_eq_true rfl) rfl rfl (by kernel_rfl) ?_
    refine WL.nil ?_
    refine WQ.sub (l' := [(1, vP b3 0), (3, vP b75 0), (4, vP b78 0), (5, vP b81 0), (6, vP b84 0), (7, vI 1)]) ⟨rfl, rfl, rfl, rfl, rfl, rfl, trivial⟩ ?_
    refine WQ.then (hK3 1 _ _ (by omega) (.inr (.inl ⟨b75, b78, b81, b84, rfl, rfl, hH86⟩)))
  ·
    refine WC.seq fun K87 hK87 => ?_
    refine WC.seq fun K88 hK88 => ?_
    refine WC.region ?_
    refine WL.pure (v := vI 1) 26 rfl (Nat.le_of_ble_eq_true rfl) rfl rfl (by kernel_rfl) ?_
    refine WL.pure (v := .bool true) 27 rfl (Nat.le_of_ble_eq_true rfl) rfl rfl (x_lss rfl rfl rfl (by decide)) ?_
    refine WL.nil ?_
    refine WQ.then ?_
    refine hK88 _ _ _ ?_
    refine WC.yes rfl ?_
    refine WC.skip ?_
    refine WQ.then ?_
    refine hK87 _ _ _ ?_
    refine WC.seq fun K89 hK89 => ?_
    refine WC.block ?_
    refine WC.seq fun K90 hK90 => ?_
    refine WC.region ?_
    refine WL.pure (v := vP tb 0) 31 rfl (Nat.le_of_ble_eq_true rfl) rfl rfl (by kernel_rfl) ?_
    refine WL.pure (v := vP b3 1) 32 rfl (Nat.le_of_ble_eq_true rfl) rfl rfl (by kernel_rfl) ?_
    refine WL.pure (v := vI o.a) 33 rfl (Nat.le_of_ble_eq_true rfl) rfl rfl (x_load rfl rfl Tryd.underlying3 rfl (HP.cell hH3 0 rfl rfl)) ?_
    refine WL.pure (v := vP b3 2) 34 rfl (Nat.le_of_ble_eq_true rfl) rfl rfl (by kernel_rfl) ?_
    refine WL.pure (v := vI o.v) 35 rfl (Nat.le_of_ble_eq_true rfl) rfl rfl (x_load rfl rfl Tryd.underlying3 rfl (HP.cell hH3 0 rfl rfl)) ?_
    refine WL.call (f := 14) (args := #[vP tb 0, vI o.a, vI o.v]) 36 rfl (Nat.le_of_ble_eq_true rfl) rfl rfl (by kernel_rfl) ?_
    refine (tput_zero tb o.a o.v _ (HP.cell hH3 1 rfl rfl)).mono ?_
    rintro e w91 ⟨rfl, hb92⟩
    refine ⟨_, rfl, ?_⟩
    have hH93 : HP Tr w _ [.cel b3 #[vI o.d, vI o.a, vI o.v, .bool o.f, .string o.s] 31, .cel tb #[.slice none 0 0] 54, .cel lb #[vI 0, .slice none 0 0] 58, .cel sb #[vI 0, .slice none 0 0] 59, .cel bb #[vI 0, .slice none 0 0] 62] := HP.call hH3 hb92
    refine WL.pure (v := .tuple #[vI 0, vI 1]) 30 rfl (Nat.le_of_ble_eq_true rfl) rfl rfl (by kernel_rfl) ?_
    refine WL.pure (v := vI 0) 37 rfl (Nat.le_of_ble_eq_true rfl) rfl rfl (by kernel_rfl) ?_
    refine WL.pure (v := vI 1) 38 rfl (Nat.le_of_ble_eq_true rfl) rfl rfl (by kernel_rfl) ?_
    refine WL.pure (v := vI 0) 8 rfl (Nat.le_of_ble_eq_true rfl) rfl rfl (by kernel_rfl) ?_
    refine WL.pure (v := vI 1) 9 rfl (Nat.le_of_ble_eq_true rfl) rfl rfl (by kernel_rfl) ?_
    refine WL.nil ?_
    refine WQ.then ?_
    refine hK90 _ _ _ ?_
    refine WC.sub (l' := [(1, vP b3 0), (3, vP tb 0), (4, vP lb 0), (5, vP sb 0), (6, vP bb 0), (7, vI 1), (9, vI 1), (27, .bool true)]) ⟨rfl, rfl, rfl, rfl, rfl, rfl, rfl, rfl, trivial⟩ ?_
    refine WC.seq fun K94 hK94 => ?_
    refine WC.region ?_
    refine WL.pure (v := vP tb 0) 40 rfl (Nat.le_of_ble_eq_true rfl) rfl rfl (by kernel_rfl) ?_
    refine WL.pure (v := vP b3 1) 41 rfl (Nat.le_of_ble_eq_true rfl) rfl rfl (by kernel_rfl) ?_
    refine WL.pure (v := vI o.a) 42 rfl (Nat.le_of_ble_eq_true rfl) rfl rfl (x_load rfl rfl Tryd.underlying3 rfl (HP.cell hH93 0 rfl rfl)) ?_
    refine WL.call (f := 15) (args := #[vP tb 0, vI o.a]) 43 rfl (Nat.le_of_ble_eq_true rfl) rfl rfl (by kernel_rfl) ?_
    refine (tget_zero tb o.a _ (HP.cell hH93 1 rfl rfl)).mono ?_
    rintro e w95 ⟨rfl, hb96⟩
    refine ⟨_, rfl, ?_⟩
    have hH97 : HP Tr w _ [.cel b3 #[vI o.d, vI o.a, vI o.v, .bool o.f, .string o.s] 31, .cel tb #[.slice none 0 0] 54, .cel lb #[vI 0, .slice none 0 0] 58, .cel sb #[vI 0, .slice none 0 0] 59, .cel bb #[vI 0, .slice none 0 0] 62] := HP.call hH93 hb96
    refine WL.pure (v := .tuple #[vI 0, vI 0, vI 1]) 39 rfl (Nat.le_of_ble_eq_true rfl) rfl rfl (by kernel_rfl) ?_
    refine WL.pure (v := vI 0) 44 rfl (Nat.le_of_ble_eq_true rfl) rfl rfl (by kernel_rfl) ?_
    refine WL.pure (v := vI 0) 45 rfl (Nat.le_of_ble_eq_true rfl) rfl rfl (by kernel_rfl) ?_
    refine WL.pure (v := vI 1) 46 rfl (Nat.le_of_ble_eq_true rfl) rfl rfl (by kernel_rfl) ?_
    refine WL.pure (v := vI 0) 10 rfl (Nat.le_of_ble_eq_true rfl) rfl rfl (by kernel_rfl) ?_
    refine WL.pure (v := vI 0) 11 rfl (Nat.le_of_ble_eq_true rfl) rfl rfl (by kernel_rfl) ?_
    refine WL.pure (v := vI 1) 12 rfl (Nat.le_of_ble_eq_true rfl) rfl rfl (by kernel_rfl) ?_
    refine WL.nil ?_
    refine WQ.then ?_
    refine hK94 _ _ _ ?_
    refine WC.sub (l' := [(1, vP b3 0), (3, vP tb 0), (4, vP lb 0), (5, vP sb 0), (6, vP bb 0), (7, vI 1), (9, vI 1), (12, vI 1), (27, .bool true)]) ⟨rfl, rfl, rfl, rfl, rfl, rfl, rfl, rfl, rfl, trivial⟩ ?_
    refine WC.seq fun K98 hK98 => ?_
    refine WC.region ?_
    refine WL.pure (v := vP tb 0) 48 rfl (Nat.le_of_ble_eq_true rfl) rfl rfl (by kernel_rfl) ?_
    refine WL.pure (v := vP b3 1) 49 rfl (Nat.le_of_ble_eq_true rfl) rfl rfl (by kernel_rfl) ?_
    refine WL.pure (v := vI o.a) 50 rfl (Nat.le_of_ble_eq_true rfl) rfl rfl (x_load rfl rfl Tryd.underlying3 rfl (HP.cell hH97 0 rfl rfl)) ?_
    refine WL.call (f := 16) (args := #[vP tb 0, vI o.a]) 51 rfl (Nat.le_of_ble_eq_true rfl) rfl rfl (by kernel_rfl) ?_
    refine (tdel_zero tb o.a _ (HP.cell hH97 1 rfl rfl)).mono ?_
    rintro e w99 ⟨rfl, hb100⟩
    refine ⟨_, rfl, ?_⟩
    have hH101 : HP Tr w _ [.cel b3 #[vI o.d, vI o.a, vI o.v, .bool o.f, .string o.s] 31, .cel tb #[.slice none 0 0] 54, .cel lb #[vI 0, .slice none 0 0] 58, .cel sb #[vI 0, .slice none 0 0] 59, .cel bb #[vI 0, .slice none 0 0] 62] := HP.call hH97 hb100
    refine WL.pure (v := .tuple #[vI 0, vI 1]) 47 rfl (Nat.le_of_ble_eq_true rfl) rfl rfl (by kernel_rfl) ?_
    refine WL.pure (v := vI 0) 52 rfl (Nat.le_of_ble_eq_true rfl) rfl rfl (by kernel_rfl) ?_
    refine WL.pure (v := vI 1) 53 rfl (Nat.le_of_ble_eq_true rfl) rfl rfl (by kernel_rfl) ?_
    refine WL.pure (v := vI 0) 13 rfl (Nat.le_of_ble_eq_true rfl) rfl rfl (by kernel_rfl) ?_
    refine WL.pure (v := vI 1) 14 rfl (Nat.le_of_ble_eq_true rfl) rfl rfl (by kernel_rfl) ?_
    refine WL.nil ?_
    refine WQ.then ?_
    refine hK98 _ _ _ ?_
    refine WC.sub (l' := [(1, vP b3 0), (3, vP tb 0), (4, vP lb 0), (5, vP sb 0), (6, vP bb 0), (7, vI 1), (9, vI 1), (12, vI 1), (14, vI 1), (27, .bool true)]) ⟨rfl, rfl, rfl, rfl, rfl, rfl, rfl, rfl, rfl, rfl, trivial⟩ ?_
    refine WC.seq fun K102 hK102 => ?_
    refine WC.region ?_
    refine WL.pure (v := vP lb 0) 55 rfl (Nat.le_of_ble_eq_true rfl) rfl rfl (by kernel_rfl) ?_
    refine WL.pure (v := vP b3 3) 56 rfl (Nat.le_of_ble_eq_true rfl) rfl rfl (by kernel_rfl) ?_
    refine WL.pure (v := .bool o.f) 57 rfl (Nat.le_of_ble_eq_true rfl) rfl rfl (x_load rfl rfl Tryd.underlying4 rfl (HP.cell hH101 0 rfl rfl)) ?_
    refine WL.call (f := 17) (args := #[vP lb 0, .bool o.f]) 58 rfl (Nat.le_of_ble_eq_true rfl) rfl rfl (by kernel_rfl) ?_
    refine (lpop_zero lb o.f _ (HP.cell hH101 2 rfl rfl)).mono ?_
    rintro e w103 ⟨rfl, hb104⟩
    refine ⟨_, rfl, ?_⟩
    have hH105 : HP Tr w _ [.cel b3 #[vI o.d, vI o.a, vI o.v, .bool o.f, .string o.s] 31, .cel tb #[.slice none 0 0] 54, .cel lb #[vI 0, .slice none 0 0] 58, .cel sb #[vI 0, .slice none 0 0] 59, .cel bb #[vI 0, .slice none 0 0] 62] := HP.call hH101 hb104
    refine WL.pure (v := .tuple #[vI 0, vI 1]) 54 rfl (Nat.le_of_ble_eq_true rfl) rfl rfl (by kernel_rfl) ?_
    refine WL.pure (v := vI 0) 59 rfl (Nat.le_of_ble_eq_true rfl) rfl rfl (by kernel_rfl) ?_
    refine WL.pure (v := vI 1) 60 rfl (Nat.le_of_ble_eq_true rfl) rfl rfl (by kernel_rfl) ?_
    refine WL.pure (v := vI 0) 15 rfl (Nat.le_of_ble_eq_true rfl) rfl rfl (by kernel_rfl) ?_
    refine WL.pure (v := vI 1) 16 rfl (Nat.le_of_ble_eq_true rfl) rfl rfl (by kernel_rfl) ?_
    refine WL.nil ?_
    refine WQ.then ?_
    refine hK102 _ _ _ ?_
    refine WC.sub (l' := [(1, vP b3 0), (3, vP tb 0), (4, vP lb 0), (5, vP sb 0), (6, vP bb 0), (7, vI 1), (9, vI 1), (12, vI 1), (14, vI 1), (16, vI 1), (27, .bool true)]) ⟨rfl, rfl, rfl, rfl, rfl, rfl, rfl, rfl, rfl, rfl, rfl, trivial⟩ ?_
    refine WC.seq fun K106 hK106 => ?_
    refine WC.region ?_
    refine WL.pure (v := vP lb 0) 62 rfl (Nat.le_of_ble_eq_true rfl) rfl rfl (by kernel_rfl) ?_
    refine WL.pure (v := vP b3 1) 63 rfl (Nat.le_of_ble_eq_true rfl) rfl rfl (by kernel_rfl) ?_
    refine WL.pure (v := vI o.a) 64 rfl (Nat.le_of_ble_eq_true rfl) rfl rfl (x_load rfl rfl Tryd.underlying3 rfl (HP.cell hH105 0 rfl rfl)) ?_
    refine WL.call (f := 18) (args := #[vP lb 0, vI o.a]) 65 rfl (Nat.le_of_ble_eq_true rfl) rfl rfl (by kernel_rfl) ?_
    refine (lat_zero lb o.a _ (HP.cell hH105 2 rfl rfl)).mono ?_
    rintro e w107 ⟨rfl, hb108⟩
    refine ⟨_, rfl, ?_⟩
    have hH109 : HP Tr w _ [.cel b3 #[vI o.d, vI o.a, vI o.v, .bool o.f, .string o.s] 31, .cel tb #[.slice none 0 0] 54, .cel lb #[vI 0, .slice none 0 0] 58, .cel sb #[vI 0, .slice none 0 0] 59, .cel bb #[vI 0, .slice none 0 0] 62] := HP.call hH105 hb108
    refine WL.pure (v := .tuple #[vI 0, vI 1]) 61 rfl (Nat.le_of_ble_eq_true rfl) rfl rfl (by kernel_rfl) ?_
    refine WL.pure (v := vI 0) 66 rfl (Nat.le_of_ble_eq_true rfl) rfl rfl (by kernel_rfl) ?_
    refine WL.pure (v := vI 1) 67 rfl (Nat.le_of_ble_eq_true rfl) rfl rfl (by kernel_rfl) ?_
    refine WL.pure (v := vI 0) 17 rfl (Nat.le_of_ble_eq_true rfl) rfl rfl (by kernel_rfl) ?_
    refine WL.pure (v := vI 1) 18 rfl (Nat.le_of_ble_eq_true rfl) rfl rfl (by kernel_rfl) ?_
    refine WL.nil ?_
    refine WQ.then ?_
    refine hK106 _ _ _ ?_
    refine WC.sub (l' := [(1, vP b3 0), (3, vP tb 0), (4, vP lb 0), (5, vP sb 0), (6, vP bb 0), (7, vI 1), (9, vI 1), (12, vI 1), (14, vI 1), (16, vI 1), (18, vI 1), (27, .bool true)]) ⟨rfl, rfl, rfl, rfl, rfl, rfl, rfl, rfl, rfl, rfl, rfl, rfl, trivial⟩ ?_
    refine WC.seq fun K110 hK110 => ?_
    refine WC.region ?_
    refine WL.pure (v := vP sb 0) 69 rfl (Nat.le_of_ble_eq_true rfl) rfl rfl (by kernel_rfl) ?_
    refine WL.pure (v := vP b3 1) 70 rfl (Nat.le_of_ble_eq_true rfl) rfl rfl (by kernel_rfl) ?_
    refine WL.pure (v := vI o.a) 71 rfl (Nat.le_of_ble_eq_true rfl) rfl rfl (x_load rfl rfl Tryd.underlying3 rfl (HP.cell hH109 0 rfl rfl)) ?_
    refine WL.call (f := 19) (args := #[vP sb 0, vI o.a]) 72 rfl (Nat.le_of_ble_eq_true rfl) rfl rfl (by kernel_rfl) ?_
    refine (sins_zero sb o.a _ (HP.cell hH109 3 rfl rfl)).mono ?_
    rintro e w111 ⟨rfl, hb112⟩
    refine ⟨_, rfl, ?_⟩
    have hH113 : HP Tr w _ [.cel b3 #[vI o.d, vI o.a, vI o.v, .bool o.f, .string o.s] 31, .cel tb #[.slice none 0 0] 54, .cel lb #[vI 0, .slice none 0 0] 58, .cel sb #[vI 0, .slice none 0 0] 59, .cel bb #[vI 0, .slice none 0 0] 62] := HP.call hH109 hb112
    refine WL.pure (v := .tuple #[vI 0, vI 1]) 68 rfl (Nat.le_of_ble_eq_true rfl) rfl rfl (by kernel_rfl) ?_
    refine WL.pure (v := vI 0) 73 rfl (Nat.le_of_ble_eq_true rfl) rfl rfl (by kernel_rfl) ?_
    refine WL.pure (v := vI 1) 74 rfl (Nat.le_of_ble_eq_true rfl) rfl rfl (by kernel_rfl) ?_
    refine WL.pure (v := vI 0) 19 rfl (Nat.le_of_ble_eq_true rfl) rfl rfl (by kernel_rfl) ?_
    refine WL.pure (v := vI 1) 20 rfl (Nat.le_of_ble_eq_true rfl) rfl rfl (by kernel_rfl) ?_
    refine WL.nil ?_
    refine WQ.then ?_
    refine hK110 _ _ _ ?_
    refine WC.sub (l' := [(1, vP b3 0), (3, vP tb 0), (4, vP lb 0), (5, vP sb 0), (6, vP bb 0), (7, vI 1), (9, vI 1), (12, vI 1), (14, vI 1), (16, vI 1), (18, vI 1), (20, vI 1), (27, .bool true)]) ⟨rfl, rfl, rfl, rfl, rfl, rfl, rfl, rfl, rfl, rfl, rfl, rfl, rfl, trivial⟩ ?_
    refine WC.seq fun K114 hK114 => ?_
    refine WC.region ?_
    refine WL.pure (v := vP sb 0) 76 rfl (Nat.le_of_ble_eq_true rfl) rfl rfl (by kernel_rfl) ?_
    refine WL.pure (v := vP b3 1) 77 rfl (Nat.le_of_ble_eq_true rfl) rfl rfl (by kernel_rfl) ?_
    refine WL.pure (v := vI o.a) 78 rfl (Nat.le_of_ble_eq_true rfl) rfl rfl (x_load rfl rfl Tryd.underlying3 rfl (HP.cell hH113 0 rfl rfl)) ?_
    refine WL.call (f := 20) (args := #[vP sb 0, vI o.a]) 79 rfl (Nat.le_of_ble_eq_true rfl) rfl rfl (by kernel_rfl) ?_
    refine (srem_zero sb o.a _ (HP.cell hH113 3 rfl rfl)).mono ?_
    rintro e w115 ⟨rfl, hb116⟩
    refine ⟨_, rfl, ?_⟩
    have hH117 : HP Tr w _ [.cel b3 #[vI o.d, vI o.a, vI o.v, .bool o.f, .string o.s] 31, .cel tb #[.slice none 0 0] 54, .cel lb #[vI 0, .slice none 0 0] 58, .cel sb #[vI 0, .slice none 0 0] 59, .cel bb #[vI 0, .slice none 0 0] 62] := HP.call hH113 hb116
    refine WL.pure (v := .tuple #[vI 0, vI 1]) 75 rfl (Nat.le_of_ble_eq_true rfl) rfl rfl (by kernel_rfl) ?_
    refine WL.pure (v := vI 0) 80 rfl (Nat.le_of_ble_eq_true rfl) rfl rfl (by kernel_rfl) ?_
    refine WL.pure (v := vI 1) 81 rfl (Nat.le_of_ble_eq_true rfl) rfl rfl (by kernel_rfl) ?_
    refine WL.pure (v := vI 0) 21 rfl (Nat.le_of_ble_eq_true rfl) rfl rfl (by kernel_rfl) ?_
    refine WL.pure (v := vI 1) 22 rfl (Nat.le_of_ble_eq_true rfl) rfl rfl (by kernel_rfl) ?_
    refine WL.nil ?_
    refine WQ.then ?_
    refine hK114 _ _ _ ?_
    refine WC.sub (l' := [(1, vP b3 0), (3, vP tb 0), (4, vP lb 0), (5, vP sb 0), (6, vP bb 0), (7, vI 1), (9, vI 1), (12, vI 1), (14, vI 1), (16, vI 1), (18, vI 1), (20, vI 1), (22, vI 1), (27, .bool true)]) ⟨rfl, rfl, rfl, rfl, rfl, rfl, rfl, rfl, rfl, rfl, rfl, rfl, rfl, rfl, trivial⟩ ?_
    refine WC.seq fun K118 hK118 => ?_
    refine WC.region ?_
    refine WL.pure (v := vP sb 0) 83 rfl (Nat.le_of_ble_eq_true rfl) rfl rfl (by kernel_rfl) ?_
    refine WL.pure (v := vP b3 1) 84 rfl (Nat.le_of_ble_eq_true rfl) rfl rfl (by kernel_rfl) ?_
    refine WL.pure (v := vI o.a) 85 rfl (Nat.le_of_ble_eq_true rfl) rfl rfl (x_load rfl rfl Tryd.underlying3 rfl (HP.cell hH117 0 rfl rfl)) ?_
    refine WL.call (f := 21) (args := #[vP sb 0, vI o.a]) 86 rfl (Nat.le_of_ble_eq_true rfl) rfl rfl (by kernel_rfl) ?_
    refine (sfnd_zero sb o.a _ (HP.cell hH117 3 rfl rfl)).mono ?_
    rintro e w119 ⟨rfl, hb120⟩
    refine ⟨_, rfl, ?_⟩
    have hH121 : HP Tr w _ [.cel b3 #[vI o.d, vI o.a, vI o.v, .bool o.f, .string o.s] 31, .cel tb #[.slice none 0 0] 54, .cel lb #[vI 0, .slice none 0 0] 58, .cel sb #[vI 0, .slice none 0 0] 59, .cel bb #[vI 0, .slice none 0 0] 62] := HP.call hH117 hb120
    refine WL.pure (v := .tuple #[vI 0, vI 0, vI 1]) 82 rfl (Nat.le_of_ble_eq_true rfl) rfl rfl (by kernel_rfl) ?_
    refine WL.pure (v := vI 0) 87 rfl (Nat.le_of_ble_eq_true rfl) rfl rfl (by kernel_rfl) ?_
    refine WL.pure (v := vI 0) 88 rfl (Nat.le_of_ble_eq_true rfl) rfl rfl (by kernel_rfl) ?_
    refine WL.pure (v := vI 1) 89 rfl (Nat.le_of_ble_eq_true rfl) rfl rfl (by kernel_rfl) ?_
    refine WL.pure (v := vI 0) 23 rfl (Nat.le_of_ble_eq_true rfl) rfl rfl (by kernel_rfl) ?_
    refine WL.pure (v := vI 0) 24 rfl (Nat.le_of_ble_eq_true rfl) rfl rfl (by kernel_rfl) ?_
    refine WL.pure (v := vI 1) 25 rfl (Nat.le_of_ble_eq_true rfl) rfl rfl (by kernel_rfl) ?_
    refine WL.nil ?_
    refine WQ.then ?_
    refine hK118 _ _ _ ?_
    refine WC.sub (l' := [(1, vP b3 0), (3, vP tb 0), (4, vP lb 0), (5, vP sb 0), (6, vP bb 0), (7, vI 1), (9, vI 1), (12, vI 1), (14, vI 1), (16, vI 1), (18, vI 1), (20, vI 1), (22, vI 1), (25, vI 1), (27, .bool true)]) ⟨rfl, rfl, rfl, rfl, rfl, rfl, rfl, rfl, rfl, rfl, rfl, rfl, rfl, rfl, rfl, trivial⟩ ?_
    refine WC.seq fun K122 hK122 => ?_
    refine WC.seq fun K123 hK123 => ?_
    refine WC.region ?_
    refine WL.pure (v := vI 1) 90 rfl (Nat.le_of_ble_eq_true rfl) rfl rfl (by kernel_rfl) ?_
    refine WL.pure (v := .bool false) 91 rfl (Nat.le_of_ble_eq_true rfl) rfl rfl (x_neq rfl rfl rfl (by decide)) ?_
    refine WL.pure (v := .bool false) 92 rfl (Nat.le_of_ble_eq_true rfl) rfl rfl (by kernel_rfl) ?_
    refine WL.pure (v := vI 1) 93 rfl (Nat.le_of_ble_eq_true rfl) rfl rfl (by kernel_rfl) ?_
    refine WL.pure (v := .bool false) 94 rfl (Nat.le_of_ble_eq_true rfl) rfl rfl (x_neq rfl rfl rfl (by decide)) ?_
    refine WL.pure (v := .bool false) 95 rfl (Nat.le_of_ble_eq_true rfl) rfl rfl (by kernel_rfl) ?_
    refine WL.pure (v := .bool false) 96 rfl (Nat.le_of_ble_eq_true rfl) rfl rfl (by kernel_rfl) ?_
    refine WL.pure (v := vI 1) 97 rfl (Nat.le_of_ble_eq_true rfl) rfl rfl (by kernel_rfl) ?_
    refine WL.pure (v := .bool false) 98 rfl (Nat.le_of_ble_eq_true rfl) rfl rfl (x_neq rfl rfl rfl (by decide)) ?_
    refine WL.pure (v := .bool false) 99 rfl (Nat.le_of_ble_eq_true rfl) rfl rfl (by kernel_rfl) ?_
    refine WL.pure (v := .bool false) 100 rfl (Nat.le_of_ble_eq_true rfl) rfl rfl (by kernel_rfl) ?_
    refine WL.pure (v := vI 1) 101 rfl (Nat.le_of_ble_eq_true rfl) rfl rfl (by kernel_rfl) ?_
    refine WL.pure (v := .bool false) 102 rfl (Nat.le_of_ble_eq_true rfl) rfl rfl (x_neq rfl rfl rfl (by decide)) ?_
    refine WL.pure (v := .bool false) 103 rfl (Nat.le_of_ble_eq_true rfl) rfl rfl (by kernel_rfl) ?_
    refine WL.pure (v := .bool false) 104 rfl (Nat.le_of_ble_eq_true rfl) rfl rfl (by kernel_rfl) ?_
    refine WL.pure (v := vI 1) 105 rfl (Nat.le_of_ble_eq_true rfl) rfl rfl (by kernel_rfl) ?_
    refine WL.pure (v := .bool false) 106 rfl (Nat.le_of_ble_eq_true rfl) rfl rfl (x_neq rfl rfl rfl (by decide)) ?_
    refine WL.pure (v := .bool false) 107 rfl (Nat.le_of_ble_eq_true rfl) rfl rfl (by kernel_rfl) ?_
    refine WL.pure (v := .bool false) 108 rfl (Nat.le_of_ble_eq_true rfl) rfl rfl (by kernel_rfl) ?_
    refine WL.pure (v := vI 1) 109 rfl (Nat.le_of_ble_eq_true rfl) rfl rfl (by kernel_rfl) ?_
    refine WL.pure (v := .bool false) 110 rfl (Nat.le_of_ble_eq_true rfl) rfl rfl (x_neq rfl rfl rfl (by decide)) ?_
    refine WL.pure (v := .bool false) 111 rfl (Nat.le_of_ble_eq_true rfl) rfl rfl (by kernel_rfl) ?_
    refine WL.pure (v := .bool false) 112 rfl (Nat.le_of_ble_eq_true rfl) rfl rfl (by kernel_rfl) ?_
    refine WL.pure (v := vI 1) 113 rfl (Nat.le_of_ble_eq_true rfl) rfl rfl (by kernel_rfl) ?_
    refine WL.pure (v := .bool false) 114 rfl (Nat.le_of_ble_eq_true rfl) rfl rfl (x_neq rfl rfl rfl (by decide)) ?_
    refine WL.pure (v := .bool false) 115 rfl (Nat.le_of_ble_eq_true rfl) rfl rfl (by kernel_rfl) ?_
    refine WL.pure (v := .bool false) 116 rfl (Nat.le_of_ble_eq_true rfl) rfl rfl (by kernel_rfl) ?_
    refine WL.pure (v := vI 1) 117 rfl (Nat.le_of_ble_eq_true rfl) rfl rfl (by kernel_rfl) ?_
    refine WL.pure (v := .bool false) 118 rfl (Nat.le_of_ble_eq_true rfl) rfl rfl (x_neq rfl rfl rfl (by decide)) ?_
    refine WL.pure (v := .bool false) 119 rfl (Nat.le_of_ble_eq_true rfl) rfl rfl (by kernel_rfl) ?_
    refine WL.nil ?_
    refine WQ.then ?_
    refine hK123 _ _ _ ?_
    refine WC.sub (l' := [(1, vP b3 0), (3, vP tb 0), (4, vP lb 0), (5, vP sb 0), (6, vP bb 0), (7, vI 1), (9, vI 1), (12, vI 1), (14, vI 1), (16, vI 1), (18, vI 1), (20, vI 1), (22, vI 1), (25, vI 1), (27, .bool true), (119, .bool false)]) ⟨rfl, rfl, rfl, rfl, rfl, rfl, rfl, rfl, rfl, rfl, rfl, rfl, rfl, rfl, rfl, rfl, trivial⟩ ?_
    refine WC.no rfl ?_
    refine WC.skip ?_
    refine WQ.then ?_
    refine hK122 _ _ _ ?_
    refine WC.seq fun K124 hK124 => ?_
    refine WC.seq fun K125 hK125 => ?_
    refine WC.region ?_
    refine WL.pure (v := vP lb 0) 120 rfl (Nat.le_of_ble_eq_true rfl) rfl rfl (by kernel_rfl) ?_
    refine WL.pure (v := vP b3 1) 121 rfl (Nat.le_of_ble_eq_true rfl) rfl rfl (by kernel_rfl) ?_
    refine WL.pure (v := vI o.a) 122 rfl (Nat.le_of_ble_eq_true rfl) rfl rfl (x_load rfl rfl Tryd.underlying3 rfl (HP.cell hH121 0 rfl rfl)) ?_
    refine WL.pure (v := vP b3 3) 123 rfl (Nat.le_of_ble_eq_true rfl) rfl rfl (by kernel_rfl) ?_
    refine WL.pure (v := .bool o.f) 124 rfl (Nat.le_of_ble_eq_true rfl) rfl rfl (x_load rfl rfl Tryd.underlying4 rfl (HP.cell hH121 0 rfl rfl)) ?_
    refine WL.call (f := 22) (args := #[vP lb 0, vI o.a, .bool o.f]) 125 rfl (Nat.le_of_ble_eq_true rfl) rfl rfl (by kernel_rfl) ?_
    refine (lpush_zero lb o.a o.f _ (HP.cell hH121 2 rfl rfl)).mono ?_
    rintro e w126 ⟨rfl, hb127⟩
    refine ⟨_, rfl, ?_⟩
    have hH128 : HP Tr w _ [.cel b3 #[vI o.d, vI o.a, vI o.v, .bool o.f, .string o.s] 31, .cel tb #[.slice none 0 0] 54, .cel lb #[vI 0, .slice none 0 0] 58, .cel sb #[vI 0, .slice none 0 0] 59, .cel bb #[vI 0, .slice none 0 0] 62] := HP.call hH121 hb127
    refine WL.pure (v := .bool false) 126 rfl (Nat.le_of_ble_eq_true rfl) rfl rfl (x_neq rfl rfl rfl (by decide)) ?_
    refine WL.pure (v := .bool false) 127 rfl (Nat.le_of_ble_eq_true rfl) rfl rfl (by kernel_rfl) ?_
    refine WL.pure (v := vP bb 0) 128 rfl (Nat.le_of_ble_eq_true rfl) rfl rfl (by kernel_rfl) ?_
    refine WL.pure (v := vP b3 4) 129 rfl (Nat.le_of_ble_eq_true rfl) rfl rfl (by kernel_rfl) ?_
    refine WL.pure (v := .string o.s) 130 rfl (Nat.le_of_ble_eq_true rfl) rfl rfl (x_load rfl rfl Tryd.underlying9 rfl (HP.cell hH128 0 rfl rfl)) ?_
    refine WL.call (f := 7) (args := #[vP bb 0, .string o.s]) 131 rfl (Nat.le_of_ble_eq_true rfl) rfl rfl (by kernel_rfl) ?_
    refine (bwrite_zero bb o.s _ (HP.cell hH128 4 rfl rfl)).mono ?_
    rintro e w129 ⟨rfl, hb130⟩
    refine ⟨_, rfl, ?_⟩
    have hH131 : HP Tr w _ [.cel b3 #[vI o.d, vI o.a, vI o.v, .bool o.f, .string o.s] 31, .cel tb #[.slice none 0 0] 54, .cel lb #[vI 0, .slice none 0 0] 58, .cel sb #[vI 0, .slice none 0 0] 59, .cel bb #[vI 0, .slice none 0 0] 62] := HP.call hH128 hb130
    refine WL.pure (v := .bool false) 132 rfl (Nat.le_of_ble_eq_true rfl) rfl rfl (x_neq rfl rfl rfl (by decide)) ?_
    refine WL.pure (v := .bool false) 133 rfl (Nat.le_of_ble_eq_true rfl) rfl rfl (by kernel_rfl) ?_
    refine WL.pure (v := .bool false) 134 rfl (Nat.le_of_ble_eq_true rfl) rfl rfl (by kernel_rfl) ?_
    refine WL.pure (v := vP bb 0) 135 rfl (Nat.le_of_ble_eq_true rfl) rfl rfl (by kernel_rfl) ?_
    refine WL.pure (v := vP b3 1) 136 rfl (Nat.le_of_ble_eq_true rfl) rfl rfl (by kernel_rfl) ?_
    refine WL.pure (v := vI o.a) 137 rfl (Nat.le_of_ble_eq_true rfl) rfl rfl (x_load rfl rfl Tryd.underlying3 rfl (HP.cell hH131 0 rfl rfl)) ?_
    have htab2 := Lib.TabBelow.here ((Lib.tabBelow_of_tabIs htab).on (HP.below hH131))
    refine WL.call (f := 9) (args := #[vP bb 0, vI o.a]) 138 rfl (Nat.le_of_ble_eq_true rfl) rfl rfl (by kernel_rfl) ?_
    refine (bint_zero bb o.a _ (HP.cell hH131 4 rfl rfl) ha htab2).mono ?_
    rintro e w132 ⟨rfl, hb133⟩
    refine ⟨_, rfl, ?_⟩
    have hH134 : HP Tr w _ [.cel b3 #[vI o.d, vI o.a, vI o.v, .bool o.f, .string o.s] 31, .cel tb #[.slice none 0 0] 54, .cel lb #[vI 0, .slice none 0 0] 58, .cel sb #[vI 0, .slice none 0 0] 59, .cel bb #[vI 0, .slice none 0 0] 62] := HP.call hH131 hb133
    refine WL.pure (v := .bool false) 139 rfl (Nat.le_of_ble_eq_true rfl) rfl rfl (x_neq rfl rfl rfl (by decide)) ?_
    refine WL.pure (v := .bool false) 140 rfl (Nat.le_of_ble_eq_true rfl) rfl rfl (by kernel_rfl) ?_
    refine WL.pure (v := .bool false) 141 rfl (Nat.le_of_ble_eq_true rfl) rfl rfl (by kernel_rfl) ?_
    refine WL.pure (v := vP tb 0) 142 rfl (Nat.le_of_ble_eq_true rfl) rfl rfl (by kernel_rfl) ?_
    refine WL.call (f := 23) (args := #[vP tb 0]) 143 rfl (Nat.le_of_ble_eq_true rfl) rfl rfl (by kernel_rfl) ?_
    refine (tlen_zero tb _ (HP.cell hH134 1 rfl rfl)).mono ?_
    rintro e w135 ⟨rfl, hb136⟩
    refine ⟨_, rfl, ?_⟩
    have hH137 : HP Tr w _ [.cel b3 #[vI o.d, vI o.a, vI o.v, .bool o.f, .string o.s] 31, .cel tb #[.slice none 0 0] 54, .cel lb #[vI 0, .slice none 0 0] 58, .cel sb #[vI 0, .slice none 0 0] 59, .cel bb #[vI 0, .slice none 0 0] 62] := HP.call hH134 hb136
    refine WL.pure (v := .bool false) 144 rfl (Nat.le_of_ble_eq_true rfl) rfl rfl (x_neq rfl rfl rfl (by decide)) ?_
    refine WL.pure (v := .bool false) 145 rfl (Nat.le_of_ble_eq_true rfl) rfl rfl (by kernel_rfl) ?_
    refine WL.pure (v := .bool false) 146 rfl (Nat.le_of_ble_eq_true rfl) rfl rfl (by kernel_rfl) ?_
    refine WL.pure (v := vP tb 0) 147 rfl (Nat.le_of_ble_eq_true rfl) rfl rfl (by kernel_rfl) ?_
    refine WL.call (f := 24) (args := #[vP tb 0]) 148 rfl (Nat.le_of_ble_eq_true rfl) rfl rfl (by kernel_rfl) ?_
    refine (tcells_zero tb _ (HP.cell hH137 1 rfl rfl)).mono ?_
    rintro e w138 ⟨rfl, hb139⟩
    refine ⟨_, rfl, ?_⟩
    have hH140 : HP Tr w _ [.cel b3 #[vI o.d, vI o.a, vI o.v, .bool o.f, .string o.s] 31, .cel tb #[.slice none 0 0] 54, .cel lb #[vI 0, .slice none 0 0] 58, .cel sb #[vI 0, .slice none 0 0] 59, .cel bb #[vI 0, .slice none 0 0] 62] := HP.call hH137 hb139
    refine WL.pure (v := vI 0) 149 rfl (Nat.le_of_ble_eq_true rfl) rfl rfl (by kernel_rfl) ?_
    refine WL.pure (v := .bool false) 150 rfl (Nat.le_of_ble_eq_true rfl) rfl rfl (x_neq rfl rfl rfl (by decide)) ?_
    refine WL.pure (v := .bool false) 151 rfl (Nat.le_of_ble_eq_true rfl) rfl rfl (by kernel_rfl) ?_
    refine WL.pure (v := .bool false) 152 rfl (Nat.le_of_ble_eq_true rfl) rfl rfl (by kernel_rfl) ?_
    refine WL.pure (v := vP lb 0) 153 rfl (Nat.le_of_ble_eq_true rfl) rfl rfl (by kernel_rfl) ?_
    refine WL.call (f := 25) (args := #[vP lb 0]) 154 rfl (Nat.le_of_ble_eq_true rfl) rfl rfl (by kernel_rfl) ?_
    refine (litems_zero lb _ (HP.cell hH140 2 rfl rfl)).mono ?_
    rintro e w141 ⟨rfl, hb142⟩
    refine ⟨_, rfl, ?_⟩
    have hH143 : HP Tr w _ [.cel b3 #[vI o.d, vI o.a, vI o.v, .bool o.f, .string o.s] 31, .cel tb #[.slice none 0 0] 54, .cel lb #[vI 0, .slice none 0 0] 58, .cel sb #[vI 0, .slice none 0 0] 59, .cel bb #[vI 0, .slice none 0 0] 62] := HP.call hH140 hb142
    refine WL.pure (v := vI 0) 155 rfl (Nat.le_of_ble_eq_true rfl) rfl rfl (by kernel_rfl) ?_
    refine WL.pure (v := .bool false) 156 rfl (Nat.le_of_ble_eq_true rfl) rfl rfl (x_neq rfl rfl rfl (by decide)) ?_
    refine WL.pure (v := .bool false) 157 rfl (Nat.le_of_ble_eq_true rfl) rfl rfl (by kernel_rfl) ?_
    refine WL.pure (v := .bool false) 158 rfl (Nat.le_of_ble_eq_true rfl) rfl rfl (by kernel_rfl) ?_
    refine WL.pure (v := vP sb 0) 159 rfl (Nat.le_of_ble_eq_true rfl) rfl rfl (by kernel_rfl) ?_
    refine WL.call (f := 26) (args := #[vP sb 0]) 160 rfl (Nat.le_of_ble_eq_true rfl) rfl rfl (by kernel_rfl) ?_
    refine (sitems_zero sb _ (HP.cell hH143 3 rfl rfl)).mono ?_
    rintro e w144 ⟨rfl, hb145⟩
    refine ⟨_, rfl, ?_⟩
    have hH146 : HP Tr w _ [.cel b3 #[vI o.d, vI o.a, vI o.v, .bool o.f, .string o.s] 31, .cel tb #[.slice none 0 0] 54, .cel lb #[vI 0, .slice none 0 0] 58, .cel sb #[vI 0, .slice none 0 0] 59, .cel bb #[vI 0, .slice none 0 0] 62] := HP.call hH143 hb145
    refine WL.pure (v := vI 0) 161 rfl (Nat.le_of_ble_eq_true rfl) rfl rfl (by kernel_rfl) ?_
    refine WL.pure (v := .bool false) 162 rfl (Nat.le_of_ble_eq_true rfl) rfl rfl (x_neq rfl rfl rfl (by decide)) ?_
    refine WL.pure (v := .bool false) 163 rfl (Nat.le_of_ble_eq_true rfl) rfl rfl (by kernel_rfl) ?_
    refine WL.pure (v := .bool false) 164 rfl (Nat.le_of_ble_eq_true rfl) rfl rfl (by kernel_rfl) ?_
    refine WL.pure (v := vP bb 0) 165 rfl (Nat.le_of_ble_eq_true rfl) rfl rfl (by kernel_rfl) ?_
    refine WL.call (f := 11) (args := #[vP bb 0]) 166 rfl (Nat.le_of_ble_eq_true rfl) rfl rfl (by kernel_rfl) ?_
    refine (btext_zero bb _ (HP.cell hH146 4 rfl rfl)).mono ?_
    rintro e w147 ⟨rfl, hb148⟩
    refine ⟨_, rfl, ?_⟩
    have hH149 : HP Tr w _ [.cel b3 #[vI o.d, vI o.a, vI o.v, .bool o.f, .string o.s] 31, .cel tb #[.slice none 0 0] 54, .cel lb #[vI 0, .slice none 0 0] 58, .cel sb #[vI 0, .slice none 0 0] 59, .cel bb #[vI 0, .slice none 0 0] 62] := HP.call hH146 hb148
    refine WL.pure (v := .bool false) 167 rfl (Nat.le_of_ble_eq_true rfl) rfl rfl (x_neqs rfl rfl rfl (dF (fun h => h rfl))) ?_
    refine WL.pure (v := .bool false) 168 rfl (Nat.le_of_ble_eq_true rfl) rfl rfl (by kernel_rfl) ?_
    refine WL.nil ?_
    refine WQ.then ?_
    refine hK125 _ _ _ ?_
    refine WC.sub (l' := [(1, vP b3 0), (3, vP tb 0), (4, vP lb 0), (5, vP sb 0), (6, vP bb 0), (7, vI 1), (9, vI 1), (12, vI 1), (14, vI 1), (16, vI 1), (18, vI 1), (20, vI 1), (22, vI 1), (25, vI 1), (27, .bool true), (119, .bool false), (168, .bool false)]) ⟨rfl, rfl, rfl, rfl, rfl, rfl, rfl, rfl, rfl, rfl, rfl, rfl, rfl, rfl, rfl, rfl, rfl, trivial⟩ ?_
    refine WC.no rfl ?_
    refine WC.skip ?_
    refine WQ.then ?_
    refine hK124 _ _ _ ?_
    refine WC.region ?_
    refine WL.pure (v := .agg #[.slice none 0 0]) 169 rfl (Nat.le_of_ble_eq_true rfl) rfl rfl (by kernel_rfl) ?_
    refine WL.alloc (c := #[.slice none 0 0]) (T := 54) hH149 170 rfl (by decide) rfl rfl (fun b150 => vP b150 0) (by kernel_rfl) (fun b150 w151 hw151 => ?_)
    have hH152 : HP Tr w w151 [.cel b3 #[vI o.d, vI o.a, vI o.v, .bool o.f, .string o.s] 31, .cel tb #[.slice none 0 0] 54, .cel lb #[vI 0, .slice none 0 0] 58, .cel sb #[vI 0, .slice none 0 0] 59, .cel bb #[vI 0, .slice none 0 0] 62, .cel b150 #[.slice none 0 0] 54] := hw151.2
    have nb150 := hw151.1
    clear hw151
    refine WL.pure (v := .agg #[vI 0, .slice none 0 0]) 171 rfl (Nat.le_of_ble_eq_true rfl) rfl rfl (by kernel_rfl) ?_
    refine WL.alloc (c := #[vI 0, .slice none 0 0]) (T := 58) hH152 172 rfl (by decide) rfl rfl (fun b153 => vP b153 0) (by kernel_rfl) (fun b153 w154 hw154 => ?_)
    have hH155 : HP Tr w w154 [.cel b3 #[vI o.d, vI o.a, vI o.v, .bool o.f, .string o.s] 31, .cel tb #[.slice none 0 0] 54, .cel lb #[vI 0, .slice none 0 0] 58, .cel sb #[vI 0, .slice none 0 0] 59, .cel bb #[vI 0, .slice none 0 0] 62, .cel b150 #[.slice none 0 0] 54, .cel b153 #[vI 0, .slice none 0 0] 58] := hw154.2
    have nb153 := hw154.1
    clear hw154
    refine WL.pure (v := .agg #[vI 0, .slice none 0 0]) 173 rfl (Nat.le_of_ble_eq_true rfl) rfl rfl (by kernel_rfl) ?_
    refine WL.alloc (c := #[vI 0, .slice none 0 0]) (T := 59) hH155 174 rfl (by decide) rfl rfl (fun b156 => vP b156 0) (by kernel_rfl) (fun b156 w157 hw157 => ?_)
    have hH158 : HP Tr w w157 [.cel b3 #[vI o.d, vI o.a, vI o.v, .bool o.f, .string o.s] 31, .cel tb #[.slice none 0 0] 54, .cel lb #[vI 0, .slice none 0 0] 58, .cel sb #[vI 0, .slice none 0 0] 59, .cel bb #[vI 0, .slice none 0 0] 62, .cel b150 #[.slice none 0 0] 54, .cel b153 #[vI 0, .slice none 0 0] 58, .cel b156 #[vI 0, .slice none 0 0] 59] := hw157.2
    have nb156 := hw157.1
    clear hw157
    refine WL.pure (v := .agg #[vI 0, .slice none 0 0]) 175 rfl (Nat.le_of_ble_eq_true rfl) rfl rfl (by kernel_rfl) ?_
    refine WL.alloc (c := #[vI 0, .slice none 0 0]) (T := 62) hH158 176 rfl (by decide) rfl rfl (fun b159 => vP b159 0) (by kernel_rfl) (fun b159 w160 hw160 => ?_)
    have hH161 : HP Tr w w160 [.cel b3 #[vI o.d, vI o.a, vI o.v, .bool o.f, .string o.s] 31, .cel tb #[.slice none 0 0] 54, .cel lb #[vI 0, .slice none 0 0] 58, .cel sb #[vI 0, .slice none 0 0] 59, .cel bb #[vI 0, .slice none 0 0] 62, .cel b150 #[.slice none 0 0] 54, .cel b153 #[vI 0, .slice none 0 0] 58, .cel b156 #[vI 0, .slice none 0 0] 59, .cel b159 #[vI 0, .slice none 0 0] 62] := hw160.2
    have nb159 := hw160.1
    clear hw160
    refine WL.pure (v := vP b150 0) 3 rfl (Nat.le_of_ble_eq_true rfl) rfl rfl (by kernel_rfl) ?_
    refine WL.pure (v := vP b153 0) 4 rfl (Nat.le_of_ble_eq_true rfl) rfl rfl (by kernel_rfl) ?_
    refine WL.pure (v := vP b156 0) 5 rfl (Nat.le_of_ble_eq_true rfl) rfl rfl (by kernel_rfl) ?_
    refine WL.pure (v := vP b159 0) 6 rfl (Nat.le_of_ble_eq_true rfl) rfl rfl (by kernel_rfl) ?_
    refine WL.nil ?_
    refine WQ.inNormal ?_
    refine WQ.then ?_
    refine hK89 _ _ _ ?_
    refine WC.sub (l' := [(1, vP b3 0), (3, vP b150 0), (4, vP b153 0), (5, vP b156 0), (6, vP b159 0), (7, vI 1), (9, vI 1), (12, vI 1), (14, vI 1), (16, vI 1), (18, vI 1), (20, vI 1), (22, vI 1), (25, vI 1), (27, .bool true), (119, .bool false), (168, .bool false)]) ⟨rfl, rfl, rfl, rfl, rfl, rfl, rfl, rfl, rfl, rfl, rfl, rfl, rfl, rfl, rfl, rfl, rfl, trivial⟩ ?_
    refine WC.region ?_
    refine WL.pure (v := vI 1) 28 rfl (Nat.le_of_ble_eq_true rfl) rfl rfl (by kernel_rfl) ?_
    refine WL.pure (v := vI 2) 29 rfl (Nat.le_of_ble_eq_true rfl) rfl rfl (x_add (Z := 2) rfl rfl rfl (by omega) (by omega) (by omega)) ?_
    refine WL.pure (v := vI 2) 7 rfl (Nat.le_of_ble_eq_true rfl) rfl rfl (by kernel_rfl) ?_
    refine WL.nil ?_
    refine WQ.sub (l' := [(7, vI 2)]) ⟨rfl, trivial⟩ ?_
    refine WQ.then (hK3 0 _ _ (by omega) (.inr (.inr ⟨rfl, rfl, (HP.drop (HP.drop (HP.drop (HP.drop (HP.drop (HP.drop (HP.drop (HP.drop (HP.drop hH161 8) 7) 6) 5) 4) 3) 2) 1) 0)⟩)))
  ·
    refine WC.seq fun K162 hK162 => ?_
    refine WC.seq fun K163 hK163 => ?_
    refine WC.region ?_
    refine WL.pure (v := vI 2) 26 rfl (Nat.le_of_ble_eq_true rfl) rfl rfl (by kernel_rfl) ?_
    refine WL.pure (v := .bool false) 27 rfl (Nat.le_of_ble_eq_true rfl) rfl rfl (x_lss rfl rfl rfl (by decide)) ?_
    refine WL.nil ?_
    refine WQ.then ?_
    refine hK163 _ _ _ ?_
    refine WC.no rfl ?_
    refine WC.exit ?_
    refine WQ.thenExit ?_
    refine WQ.thenExit ?_
    refine WQ.inExit ?_
    refine WQ.then ?_
    refine hK10 _ _ _ ?_
    refine WC.seq fun K164 hK164 => ?_
    refine WC.region ?_
    refine WL.call (f := 13) (args := #[]) 177 rfl (Nat.le_of_ble_eq_true rfl) rfl rfl (by kernel_rfl) ?_
    refine (Lc.sane_any _).mono ?_
    rintro e w165 ⟨rfl, hb166⟩
    refine ⟨_, rfl, ?_⟩
    have hH167 : HP Tr w _ [] := HP.call hH3 hb166
    refine WL.pure (v := .bool true) 2 rfl (Nat.le_of_ble_eq_true rfl) rfl rfl (by kernel_rfl) ?_
    refine WL.nil ?_
    refine WQ.then ?_
    refine hK164 _ _ _ ?_
    refine WC.ret ?_
    refine WQ.ret1 2 rfl rfl ?_
    exact ⟨rfl, HP.below hH167⟩

theorem own : ownKnob Tryd.prog.godebug = none := by kernel_rfl
theorem laidOut : laidOutB Tryd.prog = true := by kernel_rfl
theorem door_met (os : Os) (args : Array Value) : laidMetH Tryd.prog Rows.libNothingRow.laid ((World.doorLaid Tryd.prog 24 os).forCall (fun _ _ => 0) ⟨#[], args, []⟩).memory :=
  laidMetH_of_parts3 (fuel := 8) (laidMet_of_run' 8 (by kernel_rfl) (by kernel_rfl)) (by kernel_rfl) (by kernel_rfl)
theorem tab0 {W : World} (h : laidMetH Tryd.prog Rows.libNothingRow.laid W) : Lib.TabIs Tryd.prog W "internal/strconv.uint64pow10" .u64 Lib.pow10Tab := by
  rw [MakeChecks.laidMetH_plain _ _ _ (by kernel_rfl)] at h
  exact Lib.tabIs_of_head (g := 0) (by kernel_rfl) (by kernel_rfl) Tryd.underlying92 Tryd.underlying85 (by kernel_rfl) (by kernel_rfl) (show laidMet Tryd.prog (("internal/strconv.uint64pow10", Lib.tabData .u64 Lib.pow10Tab) :: _) W from h.tail.tail)
set_option maxRecDepth 100000 in
theorem lifted (os : Os) (started : os.Started) (H : Type) (enc : TypeId × Value → H) :
    ReturnsInHanded {} Tryd.checked os 4 .any (fun w args => (Rows.libNothingSpec.pre enc Tryd.prog Tryd.f4 Rows.libNothingRow.domain false w args ∧ laidMetH Tryd.prog Rows.libNothingRow.laid w) ∧ sizedMet enc Tryd.prog Tryd.f4 (OpenSpec.ofChange Rows.libNothingSpec) false w args) (Rows.libNothingSpec.post enc Tryd.prog Tryd.f4 false true false false) := by
  refine returnsInHanded_of_change_and (C := Tryd.checked) (X := fun w _ => laidMetH Tryd.prog Rows.libNothingRow.laid w) (fun _ _ _ hh h => h.of_heap hh) own started (by kernel_rfl) Tryd.func4
    (ChangeSpec.witness_shaped (enc := enc) (C := Tryd.checked) (os := os) (X := fun w _ => laidMetH Tryd.prog Rows.libNothingRow.laid w) false (World.doorLaid Tryd.prog 24 os) #[.agg #[.int .i64 0, .int .i64 0, .int .i64 0, .bool false, .string ByteArray.empty]] 8 rfl (World.shaped_of_RefB (by kernel_rfl) (by kernel_rfl)) (by kernel_rfl) (by kernel_rfl) (by kernel_rfl) (door_met os _)) ?_
  intro W base args ds gs before hval0 hW _ _ hL _
  have hval : ∀ (j : Nat) t v, Tryd.f4.params[j]? = some t → args[j]? = some v → Value.okWide Tryd.prog W .any base t v := hval0
  have hW' := hW
  obtain ⟨p, q, hA0, hV, rfl, hfz, hnd⟩ := hW
  have hA : DataW.TrodAll enc Tryd.prog W 0 (fun _ => true) true Tryd.f4.params.toList args.toList ds p := hA0
  rw [Tryd.params4] at hA hval
  obtain ⟨v0, vs0, d0, ds0, p0, q0, hargs, rfl, rfl, h0, r0⟩ := trodAll_cons hA
  obtain ⟨rfl, rfl, rfl⟩ := trodAll_nil r0
  obtain rfl : args = #[v0] := by cases args; simp_all
  obtain ⟨rfl, rfl⟩ := trodVars_none hV
  have k0 := h0
  have lt0 : ∀ x ∈ p0, x.block < W.heap.size := by obtain ⟨m, hm⟩ := k0; exact DataW.trod_lt m _ _ _ hm
  obtain ⟨o5, rfl, -, wf5⟩ := Lc.open_op5 (hval 0 31 v0 rfl rfl) h0
  clear hA0 hval0
  refine (walk o5 W wf5 (tab0 hL)).mono fun e W' ⟨he, bel⟩ => ?_
  subst he
  exact ⟨_, rfl, _, _, _, [], _, [], hW', trodAll_mk1 (shut_bool Tryd.underlying4 _), (trodAll_cons_mk (Below.trod laidOut (by kernel_rfl) (of_decide_eq_true (by kernel_rfl)) k0 bel lt0) trodAll_mk0), rfl, bel.frame _, fun h => by cases h⟩

theorem over : Rows.libNothingRow.holds Tryd.pinned (OpenSpec.ofChange Rows.libNothingSpec) :=
  OpenClaim.holds_of_wide 4 Tryd.f4 rfl rfl rfl rfl rfl rfl rfl ⟨rfl, rfl, rfl, rfl, rfl⟩ rfl rfl rfl rfl rfl (by kernel_rfl) Tryd.func4 (by kernel_rfl)
    (of_decide_eq_true (by kernel_rfl)) (by unfold Func.isWrapper; first | (rw [if_pos (by decide +kernel)]; kernel_rfl) | (rw [if_neg (by decide +kernel)]; exact ⟨rfl, rfl⟩))
    (fun os started H enc _ => lifted os started H enc)
/-- the statement: the tied card -/
theorem proved : Rows.LibNothingCardSaid :=
  Claim7.holds_tied_plain_at .later [] [.data, .data, .data] true (true, "d88973e279687da712ee0e8d479af8c530e3cec3286b634eef94961d527e4c2c") false
    over (fun _ h => by cases h) (by kernel_rfl) (fun _ h => by cases h) libNothing_row_tie rfl ⟨rfl, rfl⟩ (by kernel_rfl) rfl
    (fun f fn hf hfn => by
      obtain rfl : f = 4 := Option.some.inj ((show Tryd.prog.funcNamed Rows.libNothingRow.func = some 4 by kernel_rfl).symm.trans hf) |>.symm
      obtain rfl : fn = Tryd.f4 := (Option.some.inj (Tryd.func4.symm.trans hfn)).symm
      exact ⟨by kernel_rfl, fun j t ht => by
        rw [Tryd.params4] at ht
        have hm : t ∈ [31] := by simpa using Array.mem_of_getElem? ht
        have hall : ([31].all fun u => !Tryd.prog.wantsStandIn u) = true := by kernel_rfl
        exact (show Tryd.prog.wantsStandIn t = false by simpa using List.all_eq_true.1 hall t hm)⟩)
    (by kernel_rfl)
end Go.Proofs.YtgdfbpphfanocaaDoor.libNothing
