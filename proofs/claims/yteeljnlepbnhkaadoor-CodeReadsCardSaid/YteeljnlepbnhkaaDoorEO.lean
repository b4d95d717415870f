/- The laws' sane. -/
import Derived.Test.YteeljnlepbnhkaaDoorEM
set_option linter.unusedVariables false
set_option linter.unusedSimpArgs false
namespace Go.Proofs.YteeljnlepbnhkaaDoor
open Go.RowKit Fw
namespace Ec
def sc (i : Nat) : Int := [1, 29, 1, 34, 1, 35].getD i 0
def sa (i : Nat) : Int := [1, 0, 2, 0, 3, 0].getD i 0
def sb (i : Nat) : Int := 0
theorem s_mtc : mtc sc sa sb 6 1 = .tuple #[.int .i64 3, .int .i64 5, .int .i64 0] := by kernel_rfl
theorem s_cost : costV 1 1 0 = 1 ∧ costE 1 1 0 = 0 := ⟨by kernel_rfl, by kernel_rfl⟩
set_option maxRecDepth 20000 in
set_option maxHeartbeats 4000000 in
theorem sane_any (w : World) :
    Calls Tryd.prog 5 #[] w fun e w' => e = .returned (.bool true) ∧ Below w.heap.size w w' := by
  refine calls_of Tryd.func5 rfl (m := 45) rfl [] (Fr_enter [] 45 (Nat.le_of_ble_eq_true rfl)) ?_
  have hH1 : HP Tr w w [] := HP.refl w
  refine WC.seq fun K2 hK2 => ?_
  refine WC.region ?_
  refine WL.pure (v := .bool false) 0 rfl (Nat.le_of_ble_eq_true rfl) rfl rfl (by kernel_rfl) ?_
  refine WL.nil ?_
  refine WQ.then ?_
  refine hK2 _ _ _ ?_
  refine WC.seq fun K3 hK3 => ?_
  refine WC.region ?_
  refine WL.pure (v := .agg #[vI 1, vI 1, vI 0]) 7 rfl (Nat.le_of_ble_eq_true rfl) rfl rfl (by kernel_rfl) ?_
  refine WL.pure (v := .agg #[vI 29, vI 0, vI 0]) 8 rfl (Nat.le_of_ble_eq_true rfl) rfl rfl (by kernel_rfl) ?_
  refine WL.pure (v := .agg #[vI 1, vI 2, vI 0]) 9 rfl (Nat.le_of_ble_eq_true rfl) rfl rfl (by kernel_rfl) ?_
  refine WL.pure (v := .agg #[vI 34, vI 0, vI 0]) 10 rfl (Nat.le_of_ble_eq_true rfl) rfl rfl (by kernel_rfl) ?_
  refine WL.pure (v := .agg #[vI 1, vI 3, vI 0]) 11 rfl (Nat.le_of_ble_eq_true rfl) rfl rfl (by kernel_rfl) ?_
  refine WL.pure (v := .agg #[vI 35, vI 0, vI 0]) 12 rfl (Nat.le_of_ble_eq_true rfl) rfl rfl (by kernel_rfl) ?_
  refine WL.alloc (c := #[vI 1, vI 1, vI 0, vI 29, vI 0, vI 0, vI 1, vI 2, vI 0, vI 34, vI 0, vI 0, vI 1, vI 3, vI 0, vI 35, vI 0, vI 0]) (T := 33) hH1 13 rfl (by decide) rfl rfl (fun b => vS b 6 6) (by kernel_rfl) (fun b w4 hw4 => ?_)
  have hH5 : HP Tr w w4 [.cel b #[vI 1, vI 1, vI 0, vI 29, vI 0, vI 0, vI 1, vI 2, vI 0, vI 34, vI 0, vI 0, vI 1, vI 3, vI 0, vI 35, vI 0, vI 0] 33] := hw4.2
  have nb := hw4.1
  clear hw4
  refine WL.pure (v := vS b 6 6) 1 rfl (Nat.le_of_ble_eq_true rfl) rfl rfl (by kernel_rfl) ?_
  refine WL.nil ?_
  refine WQ.then ?_
  refine hK3 _ _ _ ?_
  refine WC.sub (l' := [(0, .bool false), (1, vS b 6 6)]) ⟨rfl, rfl, trivial⟩ ?_
  refine WC.seq fun K6 hK6 => ?_
  refine WC.region ?_
  refine WL.pure (v := vS b 6 6) 15 rfl (Nat.le_of_ble_eq_true rfl) rfl rfl (by kernel_rfl) ?_
  have hIn : InC _ (some ⟨b, 0, none⟩) 6 sc sa sb := fun _ => ⟨b, 0, rfl, fun i hi => match i, hi with
    | 0, _ => HP.range hH5 0 rfl rfl
    | 1, _ => HP.range hH5 0 rfl rfl
    | 2, _ => HP.range hH5 0 rfl rfl
    | 3, _ => HP.range hH5 0 rfl rfl
    | 4, _ => HP.range hH5 0 rfl rfl
    | 5, _ => HP.range hH5 0 rfl rfl
    | i + 6, hi => absurd hi (by omega)⟩
  have q := Match_any (some ⟨b, 0, none⟩) 6 6 sc sa sb 1 _ hIn (by omega) (by omega) (by omega)
  rw [s_mtc] at q
  refine WL.call (f := 11) (args := #[vS b 6 6, vI 1]) 16 rfl (Nat.le_of_ble_eq_true rfl) rfl rfl (by kernel_rfl) ?_
  refine (q).mono ?_
  rintro e w7 ⟨rfl, hb8⟩
  refine ⟨_, rfl, ?_⟩
  have hH9 : HP Tr w _ [.cel b #[vI 1, vI 1, vI 0, vI 29, vI 0, vI 0, vI 1, vI 2, vI 0, vI 34, vI 0, vI 0, vI 1, vI 3, vI 0, vI 35, vI 0, vI 0] 33] := HP.call hH5 hb8
  clear q hIn
  refine WL.pure (v := .tuple #[vI 3, vI 5, vI 0]) 14 rfl (Nat.le_of_ble_eq_true rfl) rfl rfl (by kernel_rfl) ?_
  refine WL.pure (v := vI 3) 17 rfl (Nat.le_of_ble_eq_true rfl) rfl rfl (by kernel_rfl) ?_
  refine WL.pure (v := vI 5) 18 rfl (Nat.le_of_ble_eq_true rfl) rfl rfl (by kernel_rfl) ?_
  refine WL.pure (v := vI 0) 19 rfl (Nat.le_of_ble_eq_true rfl) rfl rfl (by kernel_rfl) ?_
  refine WL.pure (v := vI 3) 2 rfl (Nat.le_of_ble_eq_true rfl) rfl rfl (by kernel_rfl) ?_
  refine WL.pure (v := vI 5) 3 rfl (Nat.le_of_ble_eq_true rfl) rfl rfl (by kernel_rfl) ?_
  refine WL.pure (v := vI 0) 4 rfl (Nat.le_of_ble_eq_true rfl) rfl rfl (by kernel_rfl) ?_
  refine WL.nil ?_
  refine WQ.then ?_
  refine hK6 _ _ _ ?_
  refine WC.sub (l' := [(0, .bool false), (1, vS b 6 6), (2, vI 3), (3, vI 5), (4, vI 0)]) ⟨rfl, rfl, rfl, rfl, rfl, trivial⟩ ?_
  refine WC.seq fun K10 hK10 => ?_
  refine WC.region ?_
  refine WL.pure (v := vS b 6 6) 21 rfl (Nat.le_of_ble_eq_true rfl) rfl rfl (by kernel_rfl) ?_
  refine WL.pure (v := vP b 0) 22 rfl (Nat.le_of_ble_eq_true rfl) rfl rfl (x_idx (0) (0) rfl rfl rfl Tryd.underlying22 sz33 (by omega) (by omega) (by omega)) ?_
  refine WL.pure (v := .agg #[vI 1, vI 1, vI 0]) 23 rfl (Nat.le_of_ble_eq_true rfl) rfl rfl (x_loadS (cs := [vI 1, vI 1, vI 0]) rfl rfl Tryd.underlying33 rfl sz33 (HP.range hH9 0 rfl rfl)) ?_
  have q := Cost_any 1 1 0
  rw [s_cost.1, s_cost.2] at q
  refine WL.call (f := 12) (args := #[.agg #[vI 1, vI 1, vI 0]]) 24 rfl (Nat.le_of_ble_eq_true rfl) rfl rfl (by kernel_rfl) ?_
  refine (q _).mono ?_
  rintro e w11 ⟨rfl, hb12⟩
  refine ⟨_, rfl, ?_⟩
  have hH13 : HP Tr w _ [.cel b #[vI 1, vI 1, vI 0, vI 29, vI 0, vI 0, vI 1, vI 2, vI 0, vI 34, vI 0, vI 0, vI 1, vI 3, vI 0, vI 35, vI 0, vI 0] 33] := HP.call hH9 hb12
  refine WL.pure (v := .tuple #[vI 1, vI 0]) 20 rfl (Nat.le_of_ble_eq_true rfl) rfl rfl (by kernel_rfl) ?_
  refine WL.pure (v := vI 1) 25 rfl (Nat.le_of_ble_eq_true rfl) rfl rfl (by kernel_rfl) ?_
  refine WL.pure (v := vI 0) 26 rfl (Nat.le_of_ble_eq_true rfl) rfl rfl (by kernel_rfl) ?_
  refine WL.pure (v := vI 1) 5 rfl (Nat.le_of_ble_eq_true rfl) rfl rfl (by kernel_rfl) ?_
  refine WL.pure (v := vI 0) 6 rfl (Nat.le_of_ble_eq_true rfl) rfl rfl (by kernel_rfl) ?_
  refine WL.nil ?_
  refine WQ.then ?_
  refine hK10 _ _ _ ?_
  refine WC.sub (l' := [(0, .bool false), (1, vS b 6 6), (2, vI 3), (3, vI 5), (4, vI 0), (5, vI 1), (6, vI 0)]) ⟨rfl, rfl, rfl, rfl, rfl, rfl, rfl, trivial⟩ ?_
  refine WC.seq fun K14 hK14 => ?_
  refine WC.region ?_
  refine WL.pure (v := vI 3) 27 rfl (Nat.le_of_ble_eq_true rfl) rfl rfl (by kernel_rfl) ?_
  refine WL.pure (v := .bool true) 28 rfl (Nat.le_of_ble_eq_true rfl) rfl rfl (x_eql rfl rfl rfl (by decide)) ?_
  refine WL.pure (v := .bool true) 29 rfl (Nat.le_of_ble_eq_true rfl) rfl rfl (by kernel_rfl) ?_
  refine WL.pure (v := vI 5) 30 rfl (Nat.le_of_ble_eq_true rfl) rfl rfl (by kernel_rfl) ?_
  refine WL.pure (v := .bool true) 31 rfl (Nat.le_of_ble_eq_true rfl) rfl rfl (x_eql rfl rfl rfl (by decide)) ?_
  refine WL.pure (v := .bool true) 32 rfl (Nat.le_of_ble_eq_true rfl) rfl rfl (by kernel_rfl) ?_
  refine WL.pure (v := .bool true) 33 rfl (Nat.le_of_ble_eq_true rfl) rfl rfl (by kernel_rfl) ?_
  refine WL.pure (v := vI 0) 34 rfl (Nat.le_of_ble_eq_true rfl) rfl rfl (by kernel_rfl) ?_
  refine WL.pure (v := .bool true) 35 rfl (Nat.le_of_ble_eq_true rfl) rfl rfl (x_eql rfl rfl rfl (by decide)) ?_
  refine WL.pure (v := .bool true) 36 rfl (Nat.le_of_ble_eq_true rfl) rfl rfl (by kernel_rfl) ?_
  refine WL.pure (v := .bool true) 37 rfl (Nat.le_of_ble_eq_true rfl) rfl rfl (by kernel_rfl) ?_
  refine WL.pure (v := vI 1) 38 rfl (Nat.le_of_ble_eq_true rfl) rfl rfl (by kernel_rfl) ?_
  refine WL.pure (v := .bool true) 39 rfl (Nat.le_of_ble_eq_true rfl) rfl rfl (x_eql rfl rfl rfl (by decide)) ?_
  refine WL.pure (v := .bool true) 40 rfl (Nat.le_of_ble_eq_true rfl) rfl rfl (by kernel_rfl) ?_
  refine WL.pure (v := .bool true) 41 rfl (Nat.le_of_ble_eq_true rfl) rfl rfl (by kernel_rfl) ?_
  refine WL.pure (v := vI 0) 42 rfl (Nat.le_of_ble_eq_true rfl) rfl rfl (by kernel_rfl) ?_
  refine WL.pure (v := .bool true) 43 rfl (Nat.le_of_ble_eq_true rfl) rfl rfl (x_eql rfl rfl rfl (by decide)) ?_
  refine WL.pure (v := .bool true) 44 rfl (Nat.le_of_ble_eq_true rfl) rfl rfl (by kernel_rfl) ?_
  refine WL.pure (v := .bool true) 0 rfl (Nat.le_of_ble_eq_true rfl) rfl rfl (by kernel_rfl) ?_
  refine WL.nil ?_
  refine WQ.then ?_
  refine hK14 _ _ _ ?_
  refine WC.sub (l' := [(0, .bool true), (1, vS b 6 6), (2, vI 3), (3, vI 5), (4, vI 0), (5, vI 1), (6, vI 0)]) ⟨rfl, rfl, rfl, rfl, rfl, rfl, rfl, trivial⟩ ?_
  refine WC.ret ?_
  refine WQ.ret1 0 rfl rfl ?_
  exact ⟨rfl, HP.below hH13⟩
end Ec
end Go.Proofs.YteeljnlepbnhkaaDoor
