/-
  The statement RatioReads: Parse is that of the reference, for all strings, and what is read is written so.
  Conditions: none beyond those of the given row.
-/
import Derived.Test.YtlcgfhliaalccaaDoorCards
import Derived.Test.YtlcgfhliaalccaaDoorQB
import Derived.Test.YtlcgfhliaalccaaDoorTie
import Derived.SevenTiedAt
import Derived.Lib.LaidTab
import Derived.LaidMore
import Derived.Stop.Joined
import Derived.Stop.LaidErr
import Derived.ProofKit
import Derived.OpenShut
import Derived.ShutString
import Derived.ChangeOld
import Derived.Lib.SmallJoins
set_option linter.unusedVariables false
set_option linter.unusedSimpArgs false
namespace Go.Proofs.YtlcgfhliaalccaaDoor.ratioReads
open Go.ChangeShapes Go.WideShapes Go.ChangeAt Go.RowKit Go.Joins
open Go.ChangeMaps (open_string shut_string)
open Qb Rt Rc Qa Fw

theorem sz23 : (Tryd.prog.info? 23).map (·.size) = some 2 := by kernel_rfl
theorem eqR (x y : Int) (w : World) : (Op.equalIn 10000 23 (.agg #[.int .i64 x, .int .i64 y]) (.agg #[.int .i64 x, .int .i64 y])).run Tryd.prog w = .ok true w := by
  have hi1 : ∀ (a : Int) (w : World), (Op.equalIn 9999 3 (.int .i64 a) (.int .i64 a)).run Tryd.prog w = .ok true w := fun a w => by
    rw [show (9999 : Nat) = 9998 + 1 from rfl, run_equalIn_int w 9998 3 .i64 .i64 a a Tryd.underlying3]; simp
  rw [show (10000 : Nat) = 9999 + 1 from rfl, run_equalIn_agg w 9999 _ _ _ (by kernel_rfl) (by kernel_rfl)]
  simp [Program.fieldsOf, Tryd.underlying23, Op.eqFields, hi1, go_sem]
set_option maxRecDepth 20000 in
set_option maxHeartbeats 4000000 in
theorem walk (s : ByteArray) (w : World) (hz : s.size ≤ 281474976710656) (hE : Ev w) :
    Calls Tryd.prog 4 #[.string s] w fun e w' => e = .returned (.bool true) ∧ Below w.heap.size w w' := by
  obtain ⟨l, rfl⟩ := eq_bS s
  have hl : l.length ≤ 281474976710656 := by rw [size_bS] at hz; exact hz
  refine calls_of Tryd.func4 rfl (m := 42) rfl [(0, .string (bS l))] (Fr_enter [.string (bS l)] 42 (Nat.le_of_ble_eq_true rfl)) ?_
  have hH1 : HP Tr w w [] := HP.refl w
  refine WC.seq fun K2 hK2 => ?_
  refine WC.region ?_
  refine WL.pure (v := .bool false) 2 rfl (Nat.le_of_ble_eq_true rfl) rfl rfl (by kernel_rfl) ?_
  refine WL.nil ?_
  refine WQ.then ?_
  refine hK2 _ _ _ ?_
  refine WC.seq fun K3 hK3 => ?_
  refine WC.region ?_
  refine WL.pure (v := .string (bS l)) 10 rfl (Nat.le_of_ble_eq_true rfl) rfl rfl (by kernel_rfl) ?_
  refine WL.call (f := 7) (args := #[.string (bS l)]) 11 rfl (Nat.le_of_ble_eq_true rfl) rfl rfl (by kernel_rfl) ?_
  refine (Parse_any l _ hl (hE.below (HP.below hH1))).mono ?_
  rintro e w3 ⟨⟨a, b, hT, rfl⟩ | ⟨hno, rfl⟩, hb⟩
  ·
    refine ⟨_, rfl, ?_⟩
    have hH4 : HP Tr w _ [] := HP.call hH1 hb
    refine WL.pure (v := .tuple #[.agg #[vI a, vI b], vI 0]) 9 rfl (Nat.le_of_ble_eq_true rfl) rfl rfl (by kernel_rfl) ?_
    refine WL.pure (v := .agg #[vI a, vI b]) 12 rfl (Nat.le_of_ble_eq_true rfl) rfl rfl (by kernel_rfl) ?_
    refine WL.pure (v := vI 0) 13 rfl (Nat.le_of_ble_eq_true rfl) rfl rfl (by kernel_rfl) ?_
    refine WL.alloc (c := #[vI 0, vI 0]) (T := 23) hH4 3 rfl (by decide) rfl rfl (fun b5 => vP b5 0) (by kernel_rfl) (fun b5 w6 hw6 => ?_)
    have hH7 : HP Tr w w6 [.cel b5 #[vI 0, vI 0] 23] := hw6.2
    have nb5 := hw6.1
    clear hw6
    refine WL.storeS (H2 := [.cel b5 #[vI a, vI b] 23]) 0 hH7 rfl rfl rfl rfl rfl rfl sz23 rfl (Nat.le_of_ble_eq_true rfl) rfl rfl ?_
    intro w8 hH9
    refine WL.pure (v := vI 0) 4 rfl (Nat.le_of_ble_eq_true rfl) rfl rfl (by kernel_rfl) ?_
    refine WL.nil ?_
    refine WQ.then ?_
    refine hK3 _ _ _ ?_
    refine WC.seq fun K10 hK10 => ?_
    refine WC.region ?_
    refine WL.pure (v := .string (bS l)) 15 rfl (Nat.le_of_ble_eq_true rfl) rfl rfl (by kernel_rfl) ?_
    refine WL.call (f := 9) (args := #[.string (bS l)]) 16 rfl (Nat.le_of_ble_eq_true rfl) rfl rfl (by kernel_rfl) ?_
    refine (rParse_any l _ hl (hE.below (HP.below hH9))).mono ?_
    rintro e w4 ⟨⟨a2, b2, hT2, rfl⟩ | ⟨hno, -⟩, hb⟩
    rotate_left
    · exact absurd hT (hno a b)
    obtain ⟨rfl, rfl⟩ := isT_inj hT hT2
    refine ⟨_, rfl, ?_⟩
    have hH11 : HP Tr w _ [.cel b5 #[vI a, vI b] 23] := HP.call hH9 hb
    refine WL.pure (v := .tuple #[.agg #[vI a, vI b], vI 0]) 14 rfl (Nat.le_of_ble_eq_true rfl) rfl rfl (by kernel_rfl) ?_
    refine WL.pure (v := .agg #[vI a, vI b]) 17 rfl (Nat.le_of_ble_eq_true rfl) rfl rfl (by kernel_rfl) ?_
    refine WL.pure (v := vI 0) 18 rfl (Nat.le_of_ble_eq_true rfl) rfl rfl (by kernel_rfl) ?_
    refine WL.alloc (c := #[vI 0, vI 0]) (T := 23) hH11 5 rfl (by decide) rfl rfl (fun b12 => vP b12 0) (by kernel_rfl) (fun b12 w13 hw13 => ?_)
    have hH14 : HP Tr w w13 [.cel b5 #[vI a, vI b] 23, .cel b12 #[vI 0, vI 0] 23] := hw13.2
    have nb12 := hw13.1
    clear hw13
    refine WL.storeS (H2 := [.cel b5 #[vI a, vI b] 23, .cel b12 #[vI a, vI b] 23]) 1 hH14 rfl rfl rfl rfl rfl rfl sz23 rfl (Nat.le_of_ble_eq_true rfl) rfl rfl ?_
    intro w15 hH16
    refine WL.pure (v := vI 0) 6 rfl (Nat.le_of_ble_eq_true rfl) rfl rfl (by kernel_rfl) ?_
    refine WL.nil ?_
    refine WQ.then ?_
    refine hK10 _ _ _ ?_
    refine WC.sub (l' := [(0, .string (bS l)), (2, .bool false), (3, vP b5 0), (4, vI 0), (5, vP b12 0), (6, vI 0)]) ⟨rfl, rfl, rfl, rfl, rfl, rfl, trivial⟩ ?_
    refine WC.seq fun K17 hK17 => ?_
    refine WC.seq fun K18 hK18 => ?_
    refine WC.region ?_
    refine WL.pure (v := .agg #[vI a, vI b]) 19 rfl (Nat.le_of_ble_eq_true rfl) rfl rfl (x_loadS (cs := [vI a, vI b]) rfl rfl Tryd.underlying23 rfl sz23 (HP.range hH16 0 rfl rfl)) ?_
    refine WL.pure (v := .agg #[vI a, vI b]) 20 rfl (Nat.le_of_ble_eq_true rfl) rfl rfl (x_loadS (cs := [vI a, vI b]) rfl rfl Tryd.underlying23 rfl sz23 (HP.range hH16 1 rfl rfl)) ?_
    refine WL.pure (v := .bool false) 21 rfl (Nat.le_of_ble_eq_true rfl) rfl rfl (x_neqA rfl rfl rfl (by kernel_rfl) (eqR _ _ _) rfl) ?_
    refine WL.pure (v := .bool false) 22 rfl (Nat.le_of_ble_eq_true rfl) rfl rfl (by kernel_rfl) ?_
    refine WL.pure (v := vI 0) 23 rfl (Nat.le_of_ble_eq_true rfl) rfl rfl (by kernel_rfl) ?_
    refine WL.pure (v := vI 0) 24 rfl (Nat.le_of_ble_eq_true rfl) rfl rfl (by kernel_rfl) ?_
    refine WL.pure (v := .bool false) 25 rfl (Nat.le_of_ble_eq_true rfl) rfl rfl (x_neq rfl rfl rfl (by decide)) ?_
    refine WL.pure (v := .bool false) 26 rfl (Nat.le_of_ble_eq_true rfl) rfl rfl (by kernel_rfl) ?_
    refine WL.nil ?_
    refine WQ.then ?_
    refine hK18 _ _ _ ?_
    refine WC.sub (l' := [(0, .string (bS l)), (2, .bool false), (3, vP b5 0), (4, vI 0), (5, vP b12 0), (6, vI 0), (26, .bool false)]) ⟨rfl, rfl, rfl, rfl, rfl, rfl, rfl, trivial⟩ ?_
    refine WC.no rfl ?_
    refine WC.skip ?_
    refine WQ.then ?_
    refine hK17 _ _ _ ?_
    refine WC.seq fun K19 hK19 => ?_
    refine WC.seq fun K20 hK20 => ?_
    refine WC.region ?_
    refine WL.pure (v := vI 0) 27 rfl (Nat.le_of_ble_eq_true rfl) rfl rfl (by kernel_rfl) ?_
    refine WL.pure (v := .bool true) 28 rfl (Nat.le_of_ble_eq_true rfl) rfl rfl (x_eql rfl rfl rfl (by decide)) ?_
    refine WL.nil ?_
    refine WQ.then ?_
    refine hK20 _ _ _ ?_
    refine WC.yes rfl ?_
    refine WC.seq fun K21 hK21 => ?_
    refine WC.region ?_
    refine WL.pure (v := .agg #[vI a, vI b]) 30 rfl (Nat.le_of_ble_eq_true rfl) rfl rfl (x_loadS (cs := [vI a, vI b]) rfl rfl Tryd.underlying23 rfl sz23 (HP.range hH16 0 rfl rfl)) ?_
    refine WL.call (f := 5) (args := #[.agg #[vI a, vI b]]) 31 rfl (Nat.le_of_ble_eq_true rfl) rfl rfl (by kernel_rfl) ?_
    refine (Text_any a b _ (hE.below (HP.below hH16))).mono ?_
    rintro e w22 ⟨rfl, hb23⟩
    refine ⟨_, rfl, ?_⟩
    have hH24 : HP Tr w _ [.cel b5 #[vI a, vI b] 23, .cel b12 #[vI a, vI b] 23] := HP.call hH16 hb23
    refine WL.pure (v := .tuple #[.string (bS (tx a b)), vI (te a b)]) 29 rfl (Nat.le_of_ble_eq_true rfl) rfl rfl (by kernel_rfl) ?_
    refine WL.pure (v := .string (bS (tx a b))) 32 rfl (Nat.le_of_ble_eq_true rfl) rfl rfl (by kernel_rfl) ?_
    refine WL.pure (v := vI (te a b)) 33 rfl (Nat.le_of_ble_eq_true rfl) rfl rfl (by kernel_rfl) ?_
    refine WL.pure (v := .string (bS (tx a b))) 7 rfl (Nat.le_of_ble_eq_true rfl) rfl rfl (by kernel_rfl) ?_
    refine WL.pure (v := vI (te a b)) 8 rfl (Nat.le_of_ble_eq_true rfl) rfl rfl (by kernel_rfl) ?_
    refine WL.nil ?_
    refine WQ.then ?_
    refine hK21 _ _ _ ?_
    refine WC.sub (l' := [(0, .string (bS l)), (2, .bool false), (3, vP b5 0), (4, vI 0), (5, vP b12 0), (6, vI 0), (7, .string (bS (tx a b))), (8, vI (te a b)), (26, .bool false), (28, .bool true)]) ⟨rfl, rfl, rfl, rfl, rfl, rfl, rfl, rfl, rfl, rfl, trivial⟩ ?_
    refine WC.seq fun K25 hK25 => ?_
    refine WC.region ?_
    refine WL.pure (v := .string (bS (tx a b))) 34 rfl (Nat.le_of_ble_eq_true rfl) rfl rfl (by kernel_rfl) ?_
    refine WL.pure (v := .string (bS l)) 35 rfl (Nat.le_of_ble_eq_true rfl) rfl rfl (by kernel_rfl) ?_
    refine WL.pure (v := .bool false) 36 rfl (Nat.le_of_ble_eq_true rfl) rfl rfl (x_neqs rfl rfl rfl (dF (fun h => h (congrArg bS ((te_ok hT.1).2.trans hT.2))))) ?_
    refine WL.pure (v := .bool false) 37 rfl (Nat.le_of_ble_eq_true rfl) rfl rfl (by kernel_rfl) ?_
    refine WL.pure (v := vI (te a b)) 38 rfl (Nat.le_of_ble_eq_true rfl) rfl rfl (by kernel_rfl) ?_
    refine WL.pure (v := .bool false) 39 rfl (Nat.le_of_ble_eq_true rfl) rfl rfl (x_neq rfl rfl rfl (dF (fun h => h (te_ok hT.1).1))) ?_
    refine WL.pure (v := .bool false) 40 rfl (Nat.le_of_ble_eq_true rfl) rfl rfl (by kernel_rfl) ?_
    refine WL.nil ?_
    refine WQ.then ?_
    refine hK25 _ _ _ ?_
    refine WC.sub (l' := [(0, .string (bS l)), (2, .bool false), (3, vP b5 0), (4, vI 0), (5, vP b12 0), (6, vI 0), (7, .string (bS (tx a b))), (8, vI (te a b)), (26, .bool false), (28, .bool true), (40, .bool false)]) ⟨rfl, rfl, rfl, rfl, rfl, rfl, rfl, rfl, rfl, rfl, rfl, trivial⟩ ?_
    refine WC.no rfl ?_
    refine WC.skip ?_
    refine WQ.then ?_
    refine hK19 _ _ _ ?_
    refine WC.seq fun K26 hK26 => ?_
    refine WC.region ?_
    refine WL.call (f := 8) (args := #[]) 41 rfl (Nat.le_of_ble_eq_true rfl) rfl rfl (by kernel_rfl) ?_
    refine (sane_any _).mono ?_
    rintro e w27 ⟨rfl, hb28⟩
    refine ⟨_, rfl, ?_⟩
    have hH29 : HP Tr w _ [.cel b5 #[vI a, vI b] 23, .cel b12 #[vI a, vI b] 23] := HP.call hH24 hb28
    refine WL.pure (v := .bool true) 2 rfl (Nat.le_of_ble_eq_true rfl) rfl rfl (by kernel_rfl) ?_
    refine WL.nil ?_
    refine WQ.then ?_
    refine hK26 _ _ _ ?_
    refine WC.ret ?_
    refine WQ.ret1 2 rfl rfl ?_
    exact ⟨rfl, HP.below hH29⟩
  ·
    refine ⟨_, rfl, ?_⟩
    have hH30 : HP Tr w _ [] := HP.call hH1 hb
    refine WL.pure (v := .tuple #[.agg #[vI 0, vI 0], vI 4]) 9 rfl (Nat.le_of_ble_eq_true rfl) rfl rfl (by kernel_rfl) ?_
    refine WL.pure (v := .agg #[vI 0, vI 0]) 12 rfl (Nat.le_of_ble_eq_true rfl) rfl rfl (by kernel_rfl) ?_
    refine WL.pure (v := vI 4) 13 rfl (Nat.le_of_ble_eq_true rfl) rfl rfl (by kernel_rfl) ?_
    refine WL.alloc (c := #[vI 0, vI 0]) (T := 23) hH30 3 rfl (by decide) rfl rfl (fun b31 => vP b31 0) (by kernel_rfl) (fun b31 w32 hw32 => ?_)
    have hH33 : HP Tr w w32 [.cel b31 #[vI 0, vI 0] 23] := hw32.2
    have nb31 := hw32.1
    clear hw32
    refine WL.storeS (H2 := [.cel b31 #[vI 0, vI 0] 23]) 0 hH33 rfl rfl rfl rfl rfl rfl sz23 rfl (Nat.le_of_ble_eq_true rfl) rfl rfl ?_
    intro w34 hH35
    refine WL.pure (v := vI 4) 4 rfl (Nat.le_of_ble_eq_true rfl) rfl rfl (by kernel_rfl) ?_
    refine WL.nil ?_
    refine WQ.then ?_
    refine hK3 _ _ _ ?_
    refine WC.seq fun K36 hK36 => ?_
    refine WC.region ?_
    refine WL.pure (v := .string (bS l)) 15 rfl (Nat.le_of_ble_eq_true rfl) rfl rfl (by kernel_rfl) ?_
    refine WL.call (f := 9) (args := #[.string (bS l)]) 16 rfl (Nat.le_of_ble_eq_true rfl) rfl rfl (by kernel_rfl) ?_
    refine (rParse_any l _ hl (hE.below (HP.below hH35))).mono ?_
    rintro e w4 ⟨⟨a2, b2, hT2, -⟩ | ⟨-, rfl⟩, hb⟩
    · exact absurd hT2 (hno a2 b2)
    refine ⟨_, rfl, ?_⟩
    have hH37 : HP Tr w _ [.cel b31 #[vI 0, vI 0] 23] := HP.call hH35 hb
    refine WL.pure (v := .tuple #[.agg #[vI 0, vI 0], vI 4]) 14 rfl (Nat.le_of_ble_eq_true rfl) rfl rfl (by kernel_rfl) ?_
    refine WL.pure (v := .agg #[vI 0, vI 0]) 17 rfl (Nat.le_of_ble_eq_true rfl) rfl rfl (by kernel_rfl) ?_
    refine WL.pure (v := vI 4) 18 rfl (Nat.le_of_ble_eq_true rfl) rfl rfl (by kernel_rfl) ?_
    refine WL.alloc (c := #[vI 0, vI 0]) (T := 23) hH37 5 rfl (by decide) rfl rfl (fun b38 => vP b38 0) (by kernel_rfl) (fun b38 w39 hw39 => ?_)
    have hH40 : HP Tr w w39 [.cel b31 #[vI 0, vI 0] 23, .cel b38 #[vI 0, vI 0] 23] := hw39.2
    have nb38 := hw39.1
    clear hw39
    refine WL.storeS (H2 := [.cel b31 #[vI 0, vI 0] 23, .cel b38 #[vI 0, vI 0] 23]) 1 hH40 rfl rfl rfl rfl rfl rfl sz23 rfl (Nat.le_of_ble_eq_true rfl) rfl rfl ?_
    intro w41 hH42
    refine WL.pure (v := vI 4) 6 rfl (Nat.le_of_ble_eq_true rfl) rfl rfl (by kernel_rfl) ?_
    refine WL.nil ?_
    refine WQ.then ?_
    refine hK36 _ _ _ ?_
    refine WC.sub (l' := [(0, .string (bS l)), (2, .bool false), (3, vP b31 0), (4, vI 4), (5, vP b38 0), (6, vI 4)]) ⟨rfl, rfl, rfl, rfl, rfl, rfl, trivial⟩ ?_
    refine WC.seq fun K43 hK43 => ?_
    refine WC.seq fun K44 hK44 => ?_
    refine WC.region ?_
    refine WL.pure (v := .agg #[vI 0, vI 0]) 19 rfl (Nat.le_of_ble_eq_true rfl) rfl rfl (x_loadS (cs := [vI 0, vI 0]) rfl rfl Tryd.underlying23 rfl sz23 (HP.range hH42 0 rfl rfl)) ?_
    refine WL.pure (v := .agg #[vI 0, vI 0]) 20 rfl (Nat.le_of_ble_eq_true rfl) rfl rfl (x_loadS (cs := [vI 0, vI 0]) rfl rfl Tryd.underlying23 rfl sz23 (HP.range hH42 1 rfl rfl)) ?_
    refine WL.pure (v := .bool false) 21 rfl (Nat.le_of_ble_eq_true rfl) rfl rfl (x_neqA rfl rfl rfl (by kernel_rfl) (eqR _ _ _) rfl) ?_
    refine WL.pure (v := .bool false) 22 rfl (Nat.le_of_ble_eq_true rfl) rfl rfl (by kernel_rfl) ?_
    refine WL.pure (v := vI 4) 23 rfl (Nat.le_of_ble_eq_true rfl) rfl rfl (by kernel_rfl) ?_
    refine WL.pure (v := vI 4) 24 rfl (Nat.le_of_ble_eq_true rfl) rfl rfl (by kernel_rfl) ?_
    refine WL.pure (v := .bool false) 25 rfl (Nat.le_of_ble_eq_true rfl) rfl rfl (x_neq rfl rfl rfl (by decide)) ?_
    refine WL.pure (v := .bool false) 26 rfl (Nat.le_of_ble_eq_true rfl) rfl rfl (by kernel_rfl) ?_
    refine WL.nil ?_
    refine WQ.then ?_
    refine hK44 _ _ _ ?_
    refine WC.sub (l' := [(0, .string (bS l)), (2, .bool false), (3, vP b31 0), (4, vI 4), (5, vP b38 0), (6, vI 4), (26, .bool false)]) ⟨rfl, rfl, rfl, rfl, rfl, rfl, rfl, trivial⟩ ?_
    refine WC.no rfl ?_
    refine WC.skip ?_
    refine WQ.then ?_
    refine hK43 _ _ _ ?_
    refine WC.seq fun K45 hK45 => ?_
    refine WC.seq fun K46 hK46 => ?_
    refine WC.region ?_
    refine WL.pure (v := vI 4) 27 rfl (Nat.le_of_ble_eq_true rfl) rfl rfl (by kernel_rfl) ?_
    refine WL.pure (v := .bool false) 28 rfl (Nat.le_of_ble_eq_true rfl) rfl rfl (x_eql rfl rfl rfl (by decide)) ?_
    refine WL.nil ?_
    refine WQ.then ?_
    refine hK46 _ _ _ ?_
    refine WC.no rfl ?_
    refine WC.skip ?_
    refine WQ.then ?_
    refine hK45 _ _ _ ?_
    refine WC.seq fun K47 hK47 => ?_
    refine WC.region ?_
    refine WL.call (f := 8) (args := #[]) 41 rfl (Nat.le_of_ble_eq_true rfl) rfl rfl (by kernel_rfl) ?_
    refine (sane_any _).mono ?_
    rintro e w48 ⟨rfl, hb49⟩
    refine ⟨_, rfl, ?_⟩
    have hH50 : HP Tr w _ [.cel b31 #[vI 0, vI 0] 23, .cel b38 #[vI 0, vI 0] 23] := HP.call hH42 hb49
    refine WL.pure (v := .bool true) 2 rfl (Nat.le_of_ble_eq_true rfl) rfl rfl (by kernel_rfl) ?_
    refine WL.nil ?_
    refine WQ.then ?_
    refine hK47 _ _ _ ?_
    refine WC.ret ?_
    refine WQ.ret1 2 rfl rfl ?_
    exact ⟨rfl, HP.below hH50⟩

theorem own : ownKnob Tryd.prog.godebug = none := by kernel_rfl
theorem laidOut : laidOutB Tryd.prog = true := by kernel_rfl
theorem door_met (os : Os) (args : Array Value) : laidMetH Tryd.prog Rows.ratioReadsRow.laid ((World.doorLaid Tryd.prog 62 os).forCall (fun _ _ => 0) ⟨#[], args, []⟩).memory :=
  laidMetH_of_parts3 (fuel := 8) (laidMet_of_run' 8 (by kernel_rfl) (by kernel_rfl)) (by kernel_rfl) (by kernel_rfl)
theorem tab0 {W : World} (h : laidMetH Tryd.prog Rows.ratioReadsRow.laid W) : Lib.TabIs Tryd.prog W "internal/strconv.uint64pow10" .u64 Lib.pow10Tab := by
  rw [MakeChecks.laidMetH_plain _ _ _ (by kernel_rfl)] at h
  exact Lib.tabIs_of_head (g := 3) (by kernel_rfl) (by kernel_rfl) Tryd.underlying71 Tryd.underlying57 (by kernel_rfl) (by kernel_rfl) (show laidMet Tryd.prog (("internal/strconv.uint64pow10", Lib.tabData .u64 Lib.pow10Tab) :: _) W from h.tail.tail)
theorem cells82 : Tryd.prog.cellsOf 82 = 1 := by kernel_rfl
theorem cells9 : Tryd.prog.cellsOf 9 = 1 := by kernel_rfl
theorem star : "*" ++ "errors.errorString" = "*errors.errorString" := by decide
theorem row80 (u : TypeId) (h : Tryd.prog.typeName? 3 u = some "*errors.errorString") : u = 80 :=
  typeName_ptr_named (nm := "errors.errorString") (by rw [star]; kernel_rfl) (by kernel_rfl) (by decide) u (by rw [star]; exact h)
theorem gES : Tryd.prog.globalNamed "strconv.ErrSyntax" = some 1 := by kernel_rfl
theorem gEST : (Tryd.prog.globals[1]?).map (·.type) = some 36 := by kernel_rfl
theorem gER : Tryd.prog.globalNamed "strconv.ErrRange" = some 2 := by kernel_rfl
theorem gERT : (Tryd.prog.globals[2]?).map (·.type) = some 36 := by kernel_rfl
theorem ev_of {W : World} (h : laidMetH Tryd.prog Rows.ratioReadsRow.laid W) : Ev W := by
  have ht := tab0 h
  rw [MakeChecks.laidMetH_plain _ _ _ (by kernel_rfl)] at h
  obtain ⟨a0, s0, hv0, -, -, -⟩ := laid_sentinel h.tail.tail.tail gER gERT Tryd.underlying36 row80 Tryd.underlying80 Tryd.underlying82 rfl rfl Tryd.underlying9 cells82 cells9
  obtain ⟨a1, s1, hv1, -, -, -⟩ := laid_sentinel h.tail.tail.tail.tail gES gEST Tryd.underlying36 row80 Tryd.underlying80 Tryd.underlying82 rfl rfl Tryd.underlying9 cells82 cells9
  exact ⟨ht, ⟨_, _, by have h0 := World.var?_cell gES hv1 0; simpa using h0⟩, _, _, by have h0 := World.var?_cell gER hv0 0; simpa using h0⟩
set_option maxRecDepth 100000 in
theorem lifted (os : Os) (started : os.Started) (H : Type) (enc : TypeId × Value → H) :
    ReturnsInHanded {} Tryd.checked os 4 .any (fun w args => (Rows.ratioReadsSpec.pre enc Tryd.prog Tryd.f4 Rows.ratioReadsRow.domain false w args ∧ laidMetH Tryd.prog Rows.ratioReadsRow.laid w) ∧ sizedMet enc Tryd.prog Tryd.f4 (OpenSpec.ofChange Rows.ratioReadsSpec) false w args) (Rows.ratioReadsSpec.post enc Tryd.prog Tryd.f4 false true false false) := by
  refine returnsInHanded_of_change_and (C := Tryd.checked) (X := fun w _ => laidMetH Tryd.prog Rows.ratioReadsRow.laid w) (fun _ _ _ hh h => h.of_heap hh) own started (by kernel_rfl) Tryd.func4
    (ChangeSpec.witness_shaped (enc := enc) (C := Tryd.checked) (os := os) (X := fun w _ => laidMetH Tryd.prog Rows.ratioReadsRow.laid w) false (World.doorLaid Tryd.prog 62 os) #[.string ByteArray.empty] 8 rfl (World.shaped_of_RefB (by kernel_rfl) (by kernel_rfl)) (by kernel_rfl) (by kernel_rfl) (by kernel_rfl) (door_met os _)) ?_
  intro W base args ds gs before hval0 hW _ hsz0 hL _
  have hval : ∀ (j : Nat) t v, Tryd.f4.params[j]? = some t → args[j]? = some v → Value.okWide Tryd.prog W .any base t v := hval0
  have hW' := hW
  obtain ⟨p, q, hA0, hV, rfl, hfz, hnd⟩ := hW
  have hA : DataW.TrodAll enc Tryd.prog W 0 (fun _ => true) true Tryd.f4.params.toList args.toList ds p := hA0
  have hsz : (DataW.weightsEach Tryd.prog (Tryd.f4.params.toList ++ Rows.ratioReadsSpec.plain.varTypes Tryd.prog) (ds ++ gs)).all (· ≤ reachBytes) = true := hsz0
  clear hsz0
  rw [Tryd.params4] at hA hval hsz
  obtain ⟨v0, vs0, d0, ds0, p0, q0, hargs, rfl, rfl, h0, r0⟩ := trodAll_cons hA
  obtain ⟨rfl, rfl, rfl⟩ := trodAll_nil r0
  obtain rfl : args = #[v0] := by cases args; simp_all
  obtain ⟨rfl, rfl⟩ := trodVars_none hV
  obtain ⟨a0, rfl, rfl, rfl, w0⟩ := open_string Tryd.underlying9 (hval 0 9 v0 rfl rfl) h0
  have z0 : a0.size ≤ 281474976710656 := by
    have h1 := sized_string hsz (j := 0) (t := 9) rfl rfl
    have h2 := reachBytes_lt
    have e1 : a0.size = a0.data.size := rfl
    have e2 : a0.data.toList.length = a0.data.size := Array.length_toList
    have e3 : (2 : Nat) ^ 47 = 140737488355328 := by decide
    omega
  clear hA0 hval0
  refine (walk a0 W z0 (ev_of hL)).mono fun e W' ⟨he, bel⟩ => ?_
  subst he
  exact ⟨_, rfl, _, _, _, [], _, [], hW', trodAll_mk1 (shut_bool Tryd.underlying4 _), (trodAll_cons_mk (shut_string Tryd.underlying9 w0) trodAll_mk0), rfl, bel.frame _, fun h => by cases h⟩

theorem over : Rows.ratioReadsRow.holds Tryd.pinned (OpenSpec.ofChange Rows.ratioReadsSpec) :=
  OpenClaim.holds_of_wide 4 Tryd.f4 rfl rfl rfl rfl rfl rfl rfl ⟨rfl, rfl, rfl, rfl, rfl⟩ rfl rfl rfl rfl rfl (by kernel_rfl) Tryd.func4 (by kernel_rfl)
    (of_decide_eq_true (by kernel_rfl)) (by unfold Func.isWrapper; first | (rw [if_pos (by decide +kernel)]; kernel_rfl) | (rw [if_neg (by decide +kernel)]; exact ⟨rfl, rfl⟩))
    (fun os started H enc _ => lifted os started H enc)
/-- the statement: the tied card -/
theorem proved : Rows.RatioReadsCardSaid :=
  Claim7.holds_tied_plain_at .later [] [.data, .data, .data, .sentinel, .sentinel] true (true, "b67d4d32251ec2a8368b0a566792867a782627c5f50f83ab2e441b0bb2cb9ca9") true
    over (fun _ h => by cases h) (by kernel_rfl) (fun _ h => by cases h) ratioReads_row_tie rfl ⟨rfl, rfl⟩ (by kernel_rfl) rfl
    (fun f fn hf hfn => by
      obtain rfl : f = 4 := Option.some.inj ((show Tryd.prog.funcNamed Rows.ratioReadsRow.func = some 4 by kernel_rfl).symm.trans hf) |>.symm
      obtain rfl : fn = Tryd.f4 := (Option.some.inj (Tryd.func4.symm.trans hfn)).symm
      exact ⟨by kernel_rfl, fun j t ht => by
        rw [Tryd.params4] at ht
        have hm : t ∈ [9] := by simpa using Array.mem_of_getElem? ht
        have hall : ([9].all fun u => !Tryd.prog.wantsStandIn u) = true := by kernel_rfl
        exact (show Tryd.prog.wantsStandIn t = false by simpa using List.all_eq_true.1 hall t hm)⟩)
    (by kernel_rfl)
end Go.Proofs.YtlcgfhliaalccaaDoor.ratioReads
