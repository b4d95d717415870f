/-
  The statement RatioWrites: Text is that of the reference, for all ratios, and is read back.
  Conditions: none beyond those of the given row.
-/
import Derived.Test.YtlcgfhliaalccaaDoorCards
import Derived.Test.YtlcgfhliaalccaaDoorQB
import Derived.Test.YtlcgfhliaalccaaDoorTie
import Derived.SevenTiedAt
import Derived.Lib.LaidTab
import Derived.LaidMore
import Derived.Stop.Joined
import Derived.Stop.LaidErr
import Derived.ProofKit
import Derived.OpenShut
import Derived.ShutString
import Derived.ChangeOld
import Derived.Lib.SmallJoins
set_option linter.unusedVariables false
set_option linter.unusedSimpArgs false
namespace Go.Proofs.YtlcgfhliaalccaaDoor.ratioWrites
open Go.ChangeShapes Go.WideShapes Go.ChangeAt Go.RowKit Go.Joins
open Go.ChangeMaps (open_string shut_string)
open Qb Rt Rc Qa Fw

theorem sz23 : (Tryd.prog.info? 23).map (·.size) = some 2 := by kernel_rfl
theorem eqR (x y : Int) (w : World) : (Op.equalIn 10000 23 (.agg #[.int .i64 x, .int .i64 y]) (.agg #[.int .i64 x, .int .i64 y])).run Tryd.prog w = .ok true w := by
  have hi1 : ∀ (a : Int) (w : World), (Op.equalIn 9999 3 (.int .i64 a) (.int .i64 a)).run Tryd.prog w = .ok true w := fun a w => by
    rw [show (9999 : Nat) = 9998 + 1 from rfl, run_equalIn_int w 9998 3 .i64 .i64 a a Tryd.underlying3]; simp
  rw [show (10000 : Nat) = 9999 + 1 from rfl, run_equalIn_agg w 9999 _ _ _ (by kernel_rfl) (by kernel_rfl)]
  simp [Program.fieldsOf, Tryd.underlying23, Op.eqFields, hi1, go_sem]
set_option maxRecDepth 20000 in
set_option maxHeartbeats 4000000 in
theorem walk (a b : Int) (w : World) (w1 : (Lit.int .i64 a).wf = true) (w2 : (Lit.int .i64 b).wf = true) (hE : Ev w) :
    Calls Tryd.prog 3 #[.agg #[vI a, vI b]] w fun e w' => e = .returned (.bool true) ∧ Below w.heap.size w w' := by
  refine calls_of Tryd.func3 rfl (m := 42) rfl [(0, .agg #[vI a, vI b])] (Fr_enter [.agg #[vI a, vI b]] 42 (Nat.le_of_ble_eq_true rfl)) ?_
  have hH1 : HP Tr w w [] := HP.refl w
  refine WC.seq fun K2 hK2 => ?_
  refine WC.region ?_
  refine WL.alloc (c := #[vI a, vI b]) (T := 23) hH1 1 rfl (by decide) rfl rfl (fun b3 => vP b3 0) (by kernel_rfl) (fun b3 w4 hw4 => ?_)
  have hH5 : HP Tr w w4 [.cel b3 #[vI a, vI b] 23] := hw4.2
  have nb3 := hw4.1
  clear hw4
  refine WL.pure (v := .bool false) 2 rfl (Nat.le_of_ble_eq_true rfl) rfl rfl (by kernel_rfl) ?_
  refine WL.nil ?_
  refine WQ.then ?_
  refine hK2 _ _ _ ?_
  refine WC.seq fun K6 hK6 => ?_
  refine WC.region ?_
  refine WL.pure (v := .agg #[vI a, vI b]) 10 rfl (Nat.le_of_ble_eq_true rfl) rfl rfl (x_loadS (cs := [vI a, vI b]) rfl rfl Tryd.underlying23 rfl sz23 (HP.range hH5 0 rfl rfl)) ?_
  refine WL.call (f := 5) (args := #[.agg #[vI a, vI b]]) 11 rfl (Nat.le_of_ble_eq_true rfl) rfl rfl (by kernel_rfl) ?_
  refine (Text_any a b _ (hE.below (HP.below hH5))).mono ?_
  rintro e w7 ⟨rfl, hb8⟩
  refine ⟨_, rfl, ?_⟩
  have hH9 : HP Tr w _ [.cel b3 #[vI a, vI b] 23] := HP.call hH5 hb8
  refine WL.pure (v := .tuple #[.string (bS (tx a b)), vI (te a b)]) 9 rfl (Nat.le_of_ble_eq_true rfl) rfl rfl (by kernel_rfl) ?_
  refine WL.pure (v := .string (bS (tx a b))) 12 rfl (Nat.le_of_ble_eq_true rfl) rfl rfl (by kernel_rfl) ?_
  refine WL.pure (v := vI (te a b)) 13 rfl (Nat.le_of_ble_eq_true rfl) rfl rfl (by kernel_rfl) ?_
  refine WL.pure (v := .string (bS (tx a b))) 3 rfl (Nat.le_of_ble_eq_true rfl) rfl rfl (by kernel_rfl) ?_
  refine WL.pure (v := vI (te a b)) 4 rfl (Nat.le_of_ble_eq_true rfl) rfl rfl (by kernel_rfl) ?_
  refine WL.nil ?_
  refine WQ.then ?_
  refine hK6 _ _ _ ?_
  refine WC.seq fun K10 hK10 => ?_
  refine WC.region ?_
  refine WL.pure (v := .agg #[vI a, vI b]) 15 rfl (Nat.le_of_ble_eq_true rfl) rfl rfl (x_loadS (cs := [vI a, vI b]) rfl rfl Tryd.underlying23 rfl sz23 (HP.range hH9 0 rfl rfl)) ?_
  refine WL.call (f := 6) (args := #[.agg #[vI a, vI b]]) 16 rfl (Nat.le_of_ble_eq_true rfl) rfl rfl (by kernel_rfl) ?_
  refine (rText_any a b _ (hE.below (HP.below hH9))).mono ?_
  rintro e w11 ⟨rfl, hb12⟩
  refine ⟨_, rfl, ?_⟩
  have hH13 : HP Tr w _ [.cel b3 #[vI a, vI b] 23] := HP.call hH9 hb12
  refine WL.pure (v := .tuple #[.string (bS (tx a b)), vI (te a b)]) 14 rfl (Nat.le_of_ble_eq_true rfl) rfl rfl (by kernel_rfl) ?_
  refine WL.pure (v := .string (bS (tx a b))) 17 rfl (Nat.le_of_ble_eq_true rfl) rfl rfl (by kernel_rfl) ?_
  refine WL.pure (v := vI (te a b)) 18 rfl (Nat.le_of_ble_eq_true rfl) rfl rfl (by kernel_rfl) ?_
  refine WL.pure (v := .string (bS (tx a b))) 5 rfl (Nat.le_of_ble_eq_true rfl) rfl rfl (by kernel_rfl) ?_
  refine WL.pure (v := vI (te a b)) 6 rfl (Nat.le_of_ble_eq_true rfl) rfl rfl (by kernel_rfl) ?_
  refine WL.nil ?_
  refine WQ.then ?_
  refine hK10 _ _ _ ?_
  refine WC.sub (l' := [(0, .agg #[vI a, vI b]), (1, vP b3 0), (2, .bool false), (3, .string (bS (tx a b))), (4, vI (te a b)), (5, .string (bS (tx a b))), (6, vI (te a b))]) ⟨rfl, rfl, rfl, rfl, rfl, rfl, rfl, trivial⟩ ?_
  refine WC.seq fun K14 hK14 => ?_
  refine WC.seq fun K15 hK15 => ?_
  refine WC.region ?_
  refine WL.pure (v := .string (bS (tx a b))) 19 rfl (Nat.le_of_ble_eq_true rfl) rfl rfl (by kernel_rfl) ?_
  refine WL.pure (v := .string (bS (tx a b))) 20 rfl (Nat.le_of_ble_eq_true rfl) rfl rfl (by kernel_rfl) ?_
  refine WL.pure (v := .bool false) 21 rfl (Nat.le_of_ble_eq_true rfl) rfl rfl (x_neqs rfl rfl rfl (dF (fun h => h rfl))) ?_
  refine WL.pure (v := .bool false) 22 rfl (Nat.le_of_ble_eq_true rfl) rfl rfl (by kernel_rfl) ?_
  refine WL.pure (v := vI (te a b)) 23 rfl (Nat.le_of_ble_eq_true rfl) rfl rfl (by kernel_rfl) ?_
  refine WL.pure (v := vI (te a b)) 24 rfl (Nat.le_of_ble_eq_true rfl) rfl rfl (by kernel_rfl) ?_
  refine WL.pure (v := .bool false) 25 rfl (Nat.le_of_ble_eq_true rfl) rfl rfl (x_neq rfl rfl rfl (dF (fun h => h rfl))) ?_
  refine WL.pure (v := .bool false) 26 rfl (Nat.le_of_ble_eq_true rfl) rfl rfl (by kernel_rfl) ?_
  refine WL.nil ?_
  refine WQ.then ?_
  refine hK15 _ _ _ ?_
  refine WC.sub (l' := [(0, .agg #[vI a, vI b]), (1, vP b3 0), (2, .bool false), (3, .string (bS (tx a b))), (4, vI (te a b)), (5, .string (bS (tx a b))), (6, vI (te a b)), (26, .bool false)]) ⟨rfl, rfl, rfl, rfl, rfl, rfl, rfl, rfl, trivial⟩ ?_
  refine WC.no rfl ?_
  refine WC.skip ?_
  refine WQ.then ?_
  refine hK14 _ _ _ ?_
  refine WC.seq fun K16 hK16 => ?_
  refine WC.seq fun K17 hK17 => ?_
  refine WC.region ?_
  refine WL.pure (v := vI (te a b)) 27 rfl (Nat.le_of_ble_eq_true rfl) rfl rfl (by kernel_rfl) ?_
  by_cases hok : te a b = 0
  ·
    refine WL.pure (v := .bool true) 28 rfl (Nat.le_of_ble_eq_true rfl) rfl rfl (x_eql rfl rfl rfl (dT (hok))) ?_
    refine WL.nil ?_
    refine WQ.then ?_
    refine hK17 _ _ _ ?_
    refine WC.yes rfl ?_
    refine WC.seq fun K18 hK18 => ?_
    refine WC.region ?_
    refine WL.pure (v := .string (bS (tx a b))) 30 rfl (Nat.le_of_ble_eq_true rfl) rfl rfl (by kernel_rfl) ?_
    obtain ⟨hv0, htx0⟩ := te0 hok
    have hbd := Qb.val_bd hv0
    have hT0 : isT (tx a b) a b := ⟨hv0, htx0.symm⟩
    have hlen : (tx a b).length ≤ 281474976710656 := by
      have h1 := itoa_len (n := a) (by omega) (by omega)
      have h2 := itoa_len (n := b) (by omega) (by omega)
      rw [htx0]; unfold txt; split <;> simp <;> omega
    refine WL.call (f := 7) (args := #[.string (bS (tx a b))]) 31 rfl (Nat.le_of_ble_eq_true rfl) rfl rfl (by kernel_rfl) ?_
    refine (Parse_any (tx a b) _ hlen (hE.below (HP.below hH13))).mono ?_
    rintro e w3 ⟨⟨a2, b2, hT2, rfl⟩ | ⟨hno, -⟩, hb⟩
    rotate_left
    · exact absurd hT0 (hno a b)
    obtain ⟨rfl, rfl⟩ := isT_inj hT0 hT2
    refine ⟨_, rfl, ?_⟩
    have hH19 : HP Tr w _ [.cel b3 #[vI a, vI b] 23] := HP.call hH13 hb
    refine WL.pure (v := .tuple #[.agg #[vI a, vI b], vI 0]) 29 rfl (Nat.le_of_ble_eq_true rfl) rfl rfl (by kernel_rfl) ?_
    refine WL.pure (v := .agg #[vI a, vI b]) 32 rfl (Nat.le_of_ble_eq_true rfl) rfl rfl (by kernel_rfl) ?_
    refine WL.pure (v := vI 0) 33 rfl (Nat.le_of_ble_eq_true rfl) rfl rfl (by kernel_rfl) ?_
    refine WL.alloc (c := #[vI 0, vI 0]) (T := 23) hH19 7 rfl (by decide) rfl rfl (fun b20 => vP b20 0) (by kernel_rfl) (fun b20 w21 hw21 => ?_)
    have hH22 : HP Tr w w21 [.cel b3 #[vI a, vI b] 23, .cel b20 #[vI 0, vI 0] 23] := hw21.2
    have nb20 := hw21.1
    clear hw21
    refine WL.storeS (H2 := [.cel b3 #[vI a, vI b] 23, .cel b20 #[vI a, vI b] 23]) 1 hH22 rfl rfl rfl rfl rfl rfl sz23 rfl (Nat.le_of_ble_eq_true rfl) rfl rfl ?_
    intro w23 hH24
    refine WL.pure (v := vI 0) 8 rfl (Nat.le_of_ble_eq_true rfl) rfl rfl (by kernel_rfl) ?_
    refine WL.nil ?_
    refine WQ.then ?_
    refine hK18 _ _ _ ?_
    refine WC.sub (l' := [(0, .agg #[vI a, vI b]), (1, vP b3 0), (2, .bool false), (3, .string (bS (tx a b))), (4, vI (te a b)), (5, .string (bS (tx a b))), (6, vI (te a b)), (7, vP b20 0), (8, vI 0), (26, .bool false), (28, .bool true)]) ⟨rfl, rfl, rfl, rfl, rfl, rfl, rfl, rfl, rfl, rfl, rfl, trivial⟩ ?_
    refine WC.seq fun K25 hK25 => ?_
    refine WC.region ?_
    refine WL.pure (v := .agg #[vI a, vI b]) 34 rfl (Nat.le_of_ble_eq_true rfl) rfl rfl (x_loadS (cs := [vI a, vI b]) rfl rfl Tryd.underlying23 rfl sz23 (HP.range hH24 1 rfl rfl)) ?_
    refine WL.pure (v := .agg #[vI a, vI b]) 35 rfl (Nat.le_of_ble_eq_true rfl) rfl rfl (x_loadS (cs := [vI a, vI b]) rfl rfl Tryd.underlying23 rfl sz23 (HP.range hH24 0 rfl rfl)) ?_
    refine WL.pure (v := .bool false) 36 rfl (Nat.le_of_ble_eq_true rfl) rfl rfl (x_neqA rfl rfl rfl (by kernel_rfl) (eqR _ _ _) rfl) ?_
    refine WL.pure (v := .bool false) 37 rfl (Nat.le_of_ble_eq_true rfl) rfl rfl (by kernel_rfl) ?_
    refine WL.pure (v := vI 0) 38 rfl (Nat.le_of_ble_eq_true rfl) rfl rfl (by kernel_rfl) ?_
    refine WL.pure (v := .bool false) 39 rfl (Nat.le_of_ble_eq_true rfl) rfl rfl (x_neq rfl rfl rfl (by decide)) ?_
    refine WL.pure (v := .bool false) 40 rfl (Nat.le_of_ble_eq_true rfl) rfl rfl (by kernel_rfl) ?_
    refine WL.nil ?_
    refine WQ.then ?_
    refine hK25 _ _ _ ?_
    refine WC.sub (l' := [(0, .agg #[vI a, vI b]), (1, vP b3 0), (2, .bool false), (3, .string (bS (tx a b))), (4, vI (te a b)), (5, .string (bS (tx a b))), (6, vI (te a b)), (7, vP b20 0), (8, vI 0), (26, .bool false), (28, .bool true), (40, .bool false)]) ⟨rfl, rfl, rfl, rfl, rfl, rfl, rfl, rfl, rfl, rfl, rfl, rfl, trivial⟩ ?_
    refine WC.no rfl ?_
    refine WC.skip ?_
    refine WQ.then ?_
    refine hK16 _ _ _ ?_
    refine WC.seq fun K26 hK26 => ?_
    refine WC.region ?_
    refine WL.call (f := 8) (args := #[]) 41 rfl (Nat.le_of_ble_eq_true rfl) rfl rfl (by kernel_rfl) ?_
    refine (sane_any _).mono ?_
    rintro e w27 ⟨rfl, hb28⟩
    refine ⟨_, rfl, ?_⟩
    have hH29 : HP Tr w _ [.cel b3 #[vI a, vI b] 23, .cel b20 #[vI a, vI b] 23] := HP.call hH24 hb28
    refine WL.pure (v := .bool true) 2 rfl (Nat.le_of_ble_eq_true rfl) rfl rfl (by kernel_rfl) ?_
    refine WL.nil ?_
    refine WQ.then ?_
    refine hK26 _ _ _ ?_
    refine WC.ret ?_
    refine WQ.ret1 2 rfl rfl ?_
    exact ⟨rfl, HP.below hH29⟩
  ·
    refine WL.pure (v := .bool false) 28 rfl (Nat.le_of_ble_eq_true rfl) rfl rfl (x_eql rfl rfl rfl (dF (hok))) ?_
    refine WL.nil ?_
    refine WQ.then ?_
    refine hK17 _ _ _ ?_
    refine WC.no rfl ?_
    refine WC.skip ?_
    refine WQ.then ?_
    refine hK16 _ _ _ ?_
    refine WC.seq fun K30 hK30 => ?_
    refine WC.region ?_
    refine WL.call (f := 8) (args := #[]) 41 rfl (Nat.le_of_ble_eq_true rfl) rfl rfl (by kernel_rfl) ?_
    refine (sane_any _).mono ?_
    rintro e w31 ⟨rfl, hb32⟩
    refine ⟨_, rfl, ?_⟩
    have hH33 : HP Tr w _ [.cel b3 #[vI a, vI b] 23] := HP.call hH13 hb32
    refine WL.pure (v := .bool true) 2 rfl (Nat.le_of_ble_eq_true rfl) rfl rfl (by kernel_rfl) ?_
    refine WL.nil ?_
    refine WQ.then ?_
    refine hK30 _ _ _ ?_
    refine WC.ret ?_
    refine WQ.ret1 2 rfl rfl ?_
    exact ⟨rfl, HP.below hH33⟩

theorem own : ownKnob Tryd.prog.godebug = none := by kernel_rfl
theorem laidOut : laidOutB Tryd.prog = true := by kernel_rfl
theorem cells23 : Tryd.prog.cellsOf 23 = 2 := by kernel_rfl
theorem door_met (os : Os) (args : Array Value) : laidMetH Tryd.prog Rows.ratioWritesRow.laid ((World.doorLaid Tryd.prog 62 os).forCall (fun _ _ => 0) ⟨#[], args, []⟩).memory :=
  laidMetH_of_parts3 (fuel := 8) (laidMet_of_run' 8 (by kernel_rfl) (by kernel_rfl)) (by kernel_rfl) (by kernel_rfl)
theorem tab0 {W : World} (h : laidMetH Tryd.prog Rows.ratioWritesRow.laid W) : Lib.TabIs Tryd.prog W "internal/strconv.uint64pow10" .u64 Lib.pow10Tab := by
  rw [MakeChecks.laidMetH_plain _ _ _ (by kernel_rfl)] at h
  exact Lib.tabIs_of_head (g := 3) (by kernel_rfl) (by kernel_rfl) Tryd.underlying71 Tryd.underlying57 (by kernel_rfl) (by kernel_rfl) (show laidMet Tryd.prog (("internal/strconv.uint64pow10", Lib.tabData .u64 Lib.pow10Tab) :: _) W from h.tail.tail)
theorem cells82 : Tryd.prog.cellsOf 82 = 1 := by kernel_rfl
theorem cells9 : Tryd.prog.cellsOf 9 = 1 := by kernel_rfl
theorem star : "*" ++ "errors.errorString" = "*errors.errorString" := by decide
theorem row80 (u : TypeId) (h : Tryd.prog.typeName? 3 u = some "*errors.errorString") : u = 80 :=
  typeName_ptr_named (nm := "errors.errorString") (by rw [star]; kernel_rfl) (by kernel_rfl) (by decide) u (by rw [star]; exact h)
theorem gES : Tryd.prog.globalNamed "strconv.ErrSyntax" = some 1 := by kernel_rfl
theorem gEST : (Tryd.prog.globals[1]?).map (·.type) = some 36 := by kernel_rfl
theorem gER : Tryd.prog.globalNamed "strconv.ErrRange" = some 2 := by kernel_rfl
theorem gERT : (Tryd.prog.globals[2]?).map (·.type) = some 36 := by kernel_rfl
theorem ev_of {W : World} (h : laidMetH Tryd.prog Rows.ratioWritesRow.laid W) : Ev W := by
  have ht := tab0 h
  rw [MakeChecks.laidMetH_plain _ _ _ (by kernel_rfl)] at h
  obtain ⟨a0, s0, hv0, -, -, -⟩ := laid_sentinel h.tail.tail.tail gER gERT Tryd.underlying36 row80 Tryd.underlying80 Tryd.underlying82 rfl rfl Tryd.underlying9 cells82 cells9
  obtain ⟨a1, s1, hv1, -, -, -⟩ := laid_sentinel h.tail.tail.tail.tail gES gEST Tryd.underlying36 row80 Tryd.underlying80 Tryd.underlying82 rfl rfl Tryd.underlying9 cells82 cells9
  exact ⟨ht, ⟨_, _, by have h0 := World.var?_cell gES hv1 0; simpa using h0⟩, _, _, by have h0 := World.var?_cell gER hv0 0; simpa using h0⟩
set_option maxRecDepth 100000 in
theorem lifted (os : Os) (started : os.Started) (H : Type) (enc : TypeId × Value → H) :
    ReturnsInHanded {} Tryd.checked os 3 .any (fun w args => (Rows.ratioWritesSpec.pre enc Tryd.prog Tryd.f3 Rows.ratioWritesRow.domain false w args ∧ laidMetH Tryd.prog Rows.ratioWritesRow.laid w) ∧ sizedMet enc Tryd.prog Tryd.f3 (OpenSpec.ofChange Rows.ratioWritesSpec) false w args) (Rows.ratioWritesSpec.post enc Tryd.prog Tryd.f3 false true false false) := by
  refine returnsInHanded_of_change_and (C := Tryd.checked) (X := fun w _ => laidMetH Tryd.prog Rows.ratioWritesRow.laid w) (fun _ _ _ hh h => h.of_heap hh) own started (by kernel_rfl) Tryd.func3
    (ChangeSpec.witness_shaped (enc := enc) (C := Tryd.checked) (os := os) (X := fun w _ => laidMetH Tryd.prog Rows.ratioWritesRow.laid w) false (World.doorLaid Tryd.prog 62 os) #[.agg #[.int .i64 0, .int .i64 0]] 8 rfl (World.shaped_of_RefB (by kernel_rfl) (by kernel_rfl)) (by kernel_rfl) (by kernel_rfl) (by kernel_rfl) (door_met os _)) ?_
  intro W base args ds gs before hval0 hW _ _ hL _
  have hval : ∀ (j : Nat) t v, Tryd.f3.params[j]? = some t → args[j]? = some v → Value.okWide Tryd.prog W .any base t v := hval0
  have hW' := hW
  obtain ⟨p, q, hA0, hV, rfl, hfz, hnd⟩ := hW
  have hA : DataW.TrodAll enc Tryd.prog W 0 (fun _ => true) true Tryd.f3.params.toList args.toList ds p := hA0
  rw [Tryd.params3] at hA hval
  obtain ⟨v0, vs0, d0, ds0, p0, q0, hargs, rfl, rfl, h0, r0⟩ := trodAll_cons hA
  obtain ⟨rfl, rfl, rfl⟩ := trodAll_nil r0
  obtain rfl : args = #[v0] := by cases args; simp_all
  obtain ⟨rfl, rfl⟩ := trodVars_none hV
  have k0 := h0
  have lt0 : ∀ x ∈ p0, x.block < W.heap.size := by obtain ⟨m, hm⟩ := k0; exact DataW.trod_lt m _ _ _ hm
  obtain ⟨c0_0, c0_1, y0_0, y0_1, m0, rfl, hd0, hp0, hy0_0, hy0_1⟩ := open_agg2 Tryd.underlying23 (by kernel_rfl) cells23 (hval 0 23 v0 rfl rfl) h0
  obtain ⟨a0_0, e0_0, -, w0_0⟩ := DataW.trod_int Tryd.underlying3 hy0_0
  simp at e0_0
  subst e0_0
  obtain ⟨a0_1, e0_1, -, w0_1⟩ := DataW.trod_int Tryd.underlying3 hy0_1
  simp at e0_1
  subst e0_1
  clear hd0 hp0
  clear hA0 hval0
  refine (walk a0_0 a0_1 W w0_0 w0_1 (ev_of hL)).mono fun e W' ⟨he, bel⟩ => ?_
  subst he
  exact ⟨_, rfl, _, _, _, [], _, [], hW', trodAll_mk1 (shut_bool Tryd.underlying4 _), (trodAll_cons_mk (Below.trod laidOut (by kernel_rfl) (of_decide_eq_true (by kernel_rfl)) k0 bel lt0) trodAll_mk0), rfl, bel.frame _, fun h => by cases h⟩

theorem over : Rows.ratioWritesRow.holds Tryd.pinned (OpenSpec.ofChange Rows.ratioWritesSpec) :=
  OpenClaim.holds_of_wide 3 Tryd.f3 rfl rfl rfl rfl rfl rfl rfl ⟨rfl, rfl, rfl, rfl, rfl⟩ rfl rfl rfl rfl rfl (by kernel_rfl) Tryd.func3 (by kernel_rfl)
    (of_decide_eq_true (by kernel_rfl)) (by unfold Func.isWrapper; first | (rw [if_pos (by decide +kernel)]; kernel_rfl) | (rw [if_neg (by decide +kernel)]; exact ⟨rfl, rfl⟩))
    (fun os started H enc _ => lifted os started H enc)
/-- the statement: the tied card -/
theorem proved : Rows.RatioWritesCardSaid :=
  Claim7.holds_tied_plain_at .later [] [.data, .data, .data, .sentinel, .sentinel] true (true, "b67d4d32251ec2a8368b0a566792867a782627c5f50f83ab2e441b0bb2cb9ca9") true
    over (fun _ h => by cases h) (by kernel_rfl) (fun _ h => by cases h) ratioWrites_row_tie rfl ⟨rfl, rfl⟩ (by kernel_rfl) rfl
    (fun f fn hf hfn => by
      obtain rfl : f = 3 := Option.some.inj ((show Tryd.prog.funcNamed Rows.ratioWritesRow.func = some 3 by kernel_rfl).symm.trans hf) |>.symm
      obtain rfl : fn = Tryd.f3 := (Option.some.inj (Tryd.func3.symm.trans hfn)).symm
      exact ⟨by kernel_rfl, fun j t ht => by
        rw [Tryd.params3] at ht
        have hm : t ∈ [23] := by simpa using Array.mem_of_getElem? ht
        have hall : ([23].all fun u => !Tryd.prog.wantsStandIn u) = true := by kernel_rfl
        exact (show Tryd.prog.wantsStandIn t = false by simpa using List.all_eq_true.1 hall t hm)⟩)
    (by kernel_rfl)
end Go.Proofs.YtlcgfhliaalccaaDoor.ratioWrites
