/-
  The statement LibLists: for every room and script of calls the law returns true.
  Conditions: none beyond those of the given row.
-/
import Derived.Test.YtgdfbpphfanocaaRows
import Derived.Test.YtgdfbpphfanocaaHC
import Derived.Test.YtgdfbpphfanocaaDG
import Derived.Test.YtgdfbpphfanocaaCY
import Derived.ProofKit
import Derived.OpenShut
import Derived.ShutString
import Derived.ChangeOld
import Derived.Lib.SmallJoins
set_option linter.unusedVariables false
set_option linter.unusedSimpArgs false
namespace Go.Proofs.Ytgdfbpphfanocaa.libLists
open Go.ChangeShapes Go.WideShapes Go.ChangeAt Go.RowKit Go.Joins
open Go.ChangeMaps (open_string shut_string)
open Lc Lb Fw

theorem sz30 : (Try.prog.info? 30).map (·.size) = some 5 := by kernel_rfl
theorem ops_in {W : World} {p : Option Addr} {n cap : Nat} {f : Nat → O5} (h : OpsRow W p n cap f) (h0 : 0 < n) : ∃ bb oo, p = some ⟨bb, oo, none⟩ ∧ ∀ i, i < n → W.rangeAt bb (oo + i * 5) [vI (f i).d, vI (f i).a, vI (f i).v, .bool (f i).f, .string (f i).s] := by
  obtain ⟨a, rfl⟩ := h.som h0
  have hsp : a.spot = none := by
    have hc := h.c0 a 0 rfl h0
    rw [Nat.zero_mul, show a.add 0 = a by unfold Addr.add; simp] at hc
    unfold World.cell? at hc
    cases hsp : a.spot with
    | none => rfl
    | some q => rw [hsp] at hc; simp at hc; split at hc <;> simp at hc
  obtain ⟨bb, oo, sp⟩ := a
  simp only at hsp
  subst hsp
  refine ⟨bb, oo, rfl, fun i hi j v hv => ?_⟩
  have c0 := h.c0 _ i rfl hi
  have c1 := h.c1 _ i rfl hi
  have c2 := h.c2 _ i rfl hi
  have c3 := h.c3 _ i rfl hi
  have c4 := h.c4 _ i rfl hi
  simp only [Lb.ad_add] at c0 c1 c2 c3 c4
  match j, hv with
  | 0, hv => simp at hv; subst hv; exact c0
  | 1, hv => simp at hv; subst hv; exact c1
  | 2, hv => simp at hv; subst hv; exact c2
  | 3, hv => simp at hv; subst hv; exact c3
  | 4, hv => simp at hv; subst hv; exact c4
  | j + 5, hv => simp at hv
set_option maxRecDepth 20000 in
set_option maxHeartbeats 4000000 in
theorem walk (R : Int) (p : Option Addr) (n cap : Nat) (f : Nat → O5) (w : World) (w0 : (Lit.int .i64 R).wf = true) (hrow : OpsRow w p n cap f) :
    Calls Try.prog 7 #[vI R, .slice p n cap] w fun e w' => e = .returned (.bool true) ∧ Below w.heap.size w w' := by
  refine calls_of Try.func7 rfl (m := 134) rfl [(0, vI R), (1, .slice p n cap)] (Fr_enter [vI R, .slice p n cap] 134 (Nat.le_of_ble_eq_true rfl)) ?_
  have hH1 : HP Tr w w [] := HP.refl w
  refine WC.seq fun K2 hK2 => ?_
  refine WC.region ?_
  refine WL.pure (v := .bool false) 4 rfl (Nat.le_of_ble_eq_true rfl) rfl rfl (by kernel_rfl) ?_
  refine WL.nil ?_
  refine WQ.then ?_
  refine hK2 _ _ _ ?_
  refine WC.seq fun K3 hK3 => ?_
  refine WC.region ?_
  refine WL.pure (v := vI R) 21 rfl (Nat.le_of_ble_eq_true rfl) rfl rfl (by kernel_rfl) ?_
  refine WL.call (f := 24) (args := #[vI R]) 22 rfl (Nat.le_of_ble_eq_true rfl) rfl rfl (by kernel_rfl) ?_
  refine (NewList_any R _).mono ?_
  rintro e w1 (⟨hrm, rfl, hb⟩ | ⟨hrm, l, rfl, hb⟩)
  ·
    refine ⟨_, rfl, ?_⟩
    have hH4 : HP Tr w _ [] := HP.call hH1 hb
    refine WL.pure (v := .tuple #[.pointer none, vI 1]) 20 rfl (Nat.le_of_ble_eq_true rfl) rfl rfl (by kernel_rfl) ?_
    refine WL.pure (v := .pointer none) 23 rfl (Nat.le_of_ble_eq_true rfl) rfl rfl (by kernel_rfl) ?_
    refine WL.pure (v := vI 1) 24 rfl (Nat.le_of_ble_eq_true rfl) rfl rfl (by kernel_rfl) ?_
    refine WL.pure (v := .pointer none) 5 rfl (Nat.le_of_ble_eq_true rfl) rfl rfl (by kernel_rfl) ?_
    refine WL.pure (v := vI 1) 6 rfl (Nat.le_of_ble_eq_true rfl) rfl rfl (by kernel_rfl) ?_
    refine WL.nil ?_
    refine WQ.then ?_
    refine hK3 _ _ _ ?_
    refine WC.seq fun K5 hK5 => ?_
    refine WC.region ?_
    refine WL.pure (v := vI R) 26 rfl (Nat.le_of_ble_eq_true rfl) rfl rfl (by kernel_rfl) ?_
    refine WL.call (f := 25) (args := #[vI R]) 27 rfl (Nat.le_of_ble_eq_true rfl) rfl rfl (by kernel_rfl) ?_
    refine (rNewList_any R _).mono ?_
    rintro e w2 (⟨-, rfl, hb⟩ | ⟨hrm2, -⟩)
    rotate_left
    · rw [hrm] at hrm2; cases hrm2
    refine ⟨_, rfl, ?_⟩
    have hH6 : HP Tr w _ [] := HP.call hH4 hb
    refine WL.pure (v := .tuple #[.pointer none, vI 1]) 25 rfl (Nat.le_of_ble_eq_true rfl) rfl rfl (by kernel_rfl) ?_
    refine WL.pure (v := .pointer none) 28 rfl (Nat.le_of_ble_eq_true rfl) rfl rfl (by kernel_rfl) ?_
    refine WL.pure (v := vI 1) 29 rfl (Nat.le_of_ble_eq_true rfl) rfl rfl (by kernel_rfl) ?_
    refine WL.pure (v := .pointer none) 7 rfl (Nat.le_of_ble_eq_true rfl) rfl rfl (by kernel_rfl) ?_
    refine WL.pure (v := vI 1) 8 rfl (Nat.le_of_ble_eq_true rfl) rfl rfl (by kernel_rfl) ?_
    refine WL.nil ?_
    refine WQ.then ?_
    refine hK5 _ _ _ ?_
    refine WC.sub (l' := [(0, vI R), (1, .slice p n cap), (4, .bool false), (5, .pointer none), (6, vI 1), (7, .pointer none), (8, vI 1)]) ⟨rfl, rfl, rfl, rfl, rfl, rfl, rfl, trivial⟩ ?_
    refine WC.seq fun K7 hK7 => ?_
    refine WC.seq fun K8 hK8 => ?_
    refine WC.region ?_
    refine WL.pure (v := vI 1) 30 rfl (Nat.le_of_ble_eq_true rfl) rfl rfl (by kernel_rfl) ?_
    refine WL.pure (v := vI 1) 31 rfl (Nat.le_of_ble_eq_true rfl) rfl rfl (by kernel_rfl) ?_
    refine WL.pure (v := .bool false) 32 rfl (Nat.le_of_ble_eq_true rfl) rfl rfl (x_neq rfl rfl rfl (by decide)) ?_
    refine WL.nil ?_
    refine WQ.then ?_
    refine hK8 _ _ _ ?_
    refine WC.no rfl ?_
    refine WC.skip ?_
    refine WQ.then ?_
    refine hK7 _ _ _ ?_
    refine WC.seq fun K9 hK9 => ?_
    refine WC.seq fun K10 hK10 => ?_
    refine WC.region ?_
    refine WL.pure (v := vI 0) 9 rfl (Nat.le_of_ble_eq_true rfl) rfl rfl (by kernel_rfl) ?_
    refine WL.nil ?_
    refine WQ.then ?_
    refine hK10 _ _ _ ?_
    refine WC.block ?_
    refine WC.loop (fun kk0 ll0 ww0 => ∃ (i : Nat), ll0 = [(1, .slice p n cap), (5, .pointer none), (7, .pointer none), (8, vI 1), (9, vI (i : Int))] ∧ kk0 = n - i ∧ (i ≤ n) ∧ HP Tr w ww0 []) (n) [(1, .slice p n cap), (5, .pointer none), (7, .pointer none), (8, vI 1), (9, vI 0)] ⟨rfl, rfl, rfl, rfl, rfl, trivial⟩ ⟨0, rfl, rfl, Nat.zero_le _, hH6⟩ ?_
    rintro kk l w12 ⟨i, rfl, hkk, hi, hH13⟩ K11 hK11
    refine WC.seq fun K14 hK14 => ?_
    refine WC.seq fun K15 hK15 => ?_
    refine WC.region ?_
    refine WL.pure (v := vI (i : Int)) 33 rfl (Nat.le_of_ble_eq_true rfl) rfl rfl (by kernel_rfl) ?_
    refine WL.pure (v := .slice p n cap) 34 rfl (Nat.le_of_ble_eq_true rfl) rfl rfl (by kernel_rfl) ?_
    refine WL.pure (v := vI (n : Int)) 35 rfl (Nat.le_of_ble_eq_true rfl) rfl rfl (by kernel_rfl) ?_
    by_cases hlt : (i : Int) < (n : Int)
    ·
      refine WL.pure (v := .bool true) 36 rfl (Nat.le_of_ble_eq_true rfl) rfl rfl (x_lss rfl rfl rfl (dT (hlt))) ?_
      refine WL.pure (v := .bool true) 37 rfl (Nat.le_of_ble_eq_true rfl) rfl rfl (by kernel_rfl) ?_
      refine WL.pure (v := vI (i : Int)) 38 rfl (Nat.le_of_ble_eq_true rfl) rfl rfl (by kernel_rfl) ?_
      by_cases h120 : (i : Int) < 120
      ·
        refine WL.pure (v := .bool true) 39 rfl (Nat.le_of_ble_eq_true rfl) rfl rfl (x_lss rfl rfl rfl (dT (h120))) ?_
        refine WL.pure (v := .bool true) 40 rfl (Nat.le_of_ble_eq_true rfl) rfl rfl (by kernel_rfl) ?_
        refine WL.pure (v := .bool true) 41 rfl (Nat.le_of_ble_eq_true rfl) rfl rfl (by kernel_rfl) ?_
        refine WL.pure (v := vI 1) 42 rfl (Nat.le_of_ble_eq_true rfl) rfl rfl (by kernel_rfl) ?_
        refine WL.pure (v := .bool false) 43 rfl (Nat.le_of_ble_eq_true rfl) rfl rfl (x_eql rfl rfl rfl (by decide)) ?_
        refine WL.pure (v := .bool false) 44 rfl (Nat.le_of_ble_eq_true rfl) rfl rfl (by kernel_rfl) ?_
        refine WL.nil ?_
        refine WQ.then ?_
        refine hK15 _ _ _ ?_
        refine WC.sub (l' := [(1, .slice p n cap), (5, .pointer none), (7, .pointer none), (8, vI 1), (9, vI (i : Int)), (44, .bool false)]) ⟨rfl, rfl, rfl, rfl, rfl, rfl, trivial⟩ ?_
        refine WC.no rfl ?_
        refine WC.exit ?_
        refine WQ.thenExit ?_
        refine WQ.thenExit ?_
        refine WQ.inExit ?_
        refine WQ.then ?_
        refine hK9 _ _ _ ?_
        refine WC.seq fun K16 hK16 => ?_
        refine WC.region ?_
        refine WL.pure (v := .pointer none) 126 rfl (Nat.le_of_ble_eq_true rfl) rfl rfl (by kernel_rfl) ?_
        refine WL.call (f := 33) (args := #[.pointer none]) 127 rfl (Nat.le_of_ble_eq_true rfl) rfl rfl (by kernel_rfl) ?_
        refine (Items_nil _).mono ?_
        rintro e w17 ⟨rfl, hb18⟩
        refine ⟨_, rfl, ?_⟩
        have hH19 : HP Tr w _ [] := HP.call hH13 hb18
        refine WL.pure (v := .pointer none) 128 rfl (Nat.le_of_ble_eq_true rfl) rfl rfl (by kernel_rfl) ?_
        refine WL.call (f := 34) (args := #[.pointer none]) 129 rfl (Nat.le_of_ble_eq_true rfl) rfl rfl (by kernel_rfl) ?_
        refine (rItems_nil _).mono ?_
        rintro e w20 ⟨rfl, hb21⟩
        refine ⟨_, rfl, ?_⟩
        have hH22 : HP Tr w _ [] := HP.call hH19 hb21
        refine WL.call (f := 32) (args := #[.slice none 0 0, .slice none 0 0]) 130 rfl (Nat.le_of_ble_eq_true rfl) rfl rfl (by kernel_rfl) ?_
        refine (Ints_any none none 0 0 [] _ (own_nil _) (own_nil _) (by simp)).mono ?_
        rintro e w23 ⟨rfl, hb24⟩
        refine ⟨_, rfl, ?_⟩
        have hH25 : HP Tr w _ [] := HP.call hH22 hb24
        refine WL.pure (v := .bool true) 131 rfl (Nat.le_of_ble_eq_true rfl) rfl rfl (by kernel_rfl) ?_
        refine WL.call (f := 11) (args := #[]) 132 rfl (Nat.le_of_ble_eq_true rfl) rfl rfl (by kernel_rfl) ?_
        refine (sane_any _).mono ?_
        rintro e w26 ⟨rfl, hb27⟩
        refine ⟨_, rfl, ?_⟩
        have hH28 : HP Tr w _ [] := HP.call hH25 hb27
        refine WL.pure (v := .bool true) 133 rfl (Nat.le_of_ble_eq_true rfl) rfl rfl (by kernel_rfl) ?_
        refine WL.pure (v := .bool true) 4 rfl (Nat.le_of_ble_eq_true rfl) rfl rfl (by kernel_rfl) ?_
        refine WL.nil ?_
        refine WQ.then ?_
        refine hK16 _ _ _ ?_
        refine WC.sub (l' := [(1, .slice p n cap), (4, .bool true), (5, .pointer none), (7, .pointer none), (8, vI 1), (9, vI (i : Int)), (44, .bool false)]) ⟨rfl, rfl, rfl, rfl, rfl, rfl, rfl, trivial⟩ ?_
        refine WC.ret ?_
        refine WQ.ret1 4 rfl rfl ?_
        exact ⟨rfl, HP.below hH28⟩
      ·
        refine WL.pure (v := .bool false) 39 rfl (Nat.le_of_ble_eq_true rfl) rfl rfl (x_lss rfl rfl rfl (dF (h120))) ?_
        refine WL.pure (v := .bool false) 40 rfl (Nat.le_of_ble_eq_true rfl) rfl rfl (by kernel_rfl) ?_
        refine WL.pure (v := .bool false) 41 rfl (Nat.le_of_ble_eq_true rfl) rfl rfl (by kernel_rfl) ?_
        refine WL.pass 42 rfl (Nat.le_of_ble_eq_true rfl) rfl ?_
        refine WL.pass 43 rfl (Nat.le_of_ble_eq_true rfl) rfl ?_
        refine WL.pure (v := .bool false) 44 rfl (Nat.le_of_ble_eq_true rfl) rfl rfl (by kernel_rfl) ?_
        refine WL.nil ?_
        refine WQ.then ?_
        refine hK15 _ _ _ ?_
        refine WC.sub (l' := [(1, .slice p n cap), (5, .pointer none), (7, .pointer none), (8, vI 1), (9, vI (i : Int)), (44, .bool false)]) ⟨rfl, rfl, rfl, rfl, rfl, rfl, trivial⟩ ?_
        refine WC.no rfl ?_
        refine WC.exit ?_
        refine WQ.thenExit ?_
        refine WQ.thenExit ?_
        refine WQ.inExit ?_
        refine WQ.then ?_
        refine hK9 _ _ _ ?_
        refine WC.seq fun K29 hK29 => ?_
        refine WC.region ?_
        refine WL.pure (v := .pointer none) 126 rfl (Nat.le_of_ble_eq_true rfl) rfl rfl (by kernel_rfl) ?_
        refine WL.call (f := 33) (args := #[.pointer none]) 127 rfl (Nat.le_of_ble_eq_true rfl) rfl rfl (by kernel_rfl) ?_
        refine (Items_nil _).mono ?_
        rintro e w30 ⟨rfl, hb31⟩
        refine ⟨_, rfl, ?_⟩
        have hH32 : HP Tr w _ [] := HP.call hH13 hb31
        refine WL.pure (v := .pointer none) 128 rfl (Nat.le_of_ble_eq_true rfl) rfl rfl (by kernel_rfl) ?_
        refine WL.call (f := 34) (args := #[.pointer none]) 129 rfl (Nat.le_of_ble_eq_true rfl) rfl rfl (by kernel_rfl) ?_
        refine (rItems_nil _).mono ?_
        rintro e w33 ⟨rfl, hb34⟩
        refine ⟨_, rfl, ?_⟩
        have hH35 : HP Tr w _ [] := HP.call hH32 hb34
        refine WL.call (f := 32) (args := #[.slice none 0 0, .slice none 0 0]) 130 rfl (Nat.le_of_ble_eq_true rfl) rfl rfl (by kernel_rfl) ?_
        refine (Ints_any none none 0 0 [] _ (own_nil _) (own_nil _) (by simp)).mono ?_
        rintro e w36 ⟨rfl, hb37⟩
        refine ⟨_, rfl, ?_⟩
        have hH38 : HP Tr w _ [] := HP.call hH35 hb37
        refine WL.pure (v := .bool true) 131 rfl (Nat.le_of_ble_eq_true rfl) rfl rfl (by kernel_rfl) ?_
        refine WL.call (f := 11) (args := #[]) 132 rfl (Nat.le_of_ble_eq_true rfl) rfl rfl (by kernel_rfl) ?_
        refine (sane_any _).mono ?_
        rintro e w39 ⟨rfl, hb40⟩
        refine ⟨_, rfl, ?_⟩
        have hH41 : HP Tr w _ [] := HP.call hH38 hb40
        refine WL.pure (v := .bool true) 133 rfl (Nat.le_of_ble_eq_true rfl) rfl rfl (by kernel_rfl) ?_
        refine WL.pure (v := .bool true) 4 rfl (Nat.le_of_ble_eq_true rfl) rfl rfl (by kernel_rfl) ?_
        refine WL.nil ?_
        refine WQ.then ?_
        refine hK29 _ _ _ ?_
        refine WC.sub (l' := [(1, .slice p n cap), (4, .bool true), (5, .pointer none), (7, .pointer none), (8, vI 1), (9, vI (i : Int)), (44, .bool false)]) ⟨rfl, rfl, rfl, rfl, rfl, rfl, rfl, trivial⟩ ?_
        refine WC.ret ?_
        refine WQ.ret1 4 rfl rfl ?_
        exact ⟨rfl, HP.below hH41⟩
    ·
      refine WL.pure (v := .bool false) 36 rfl (Nat.le_of_ble_eq_true rfl) rfl rfl (x_lss rfl rfl rfl (dF (hlt))) ?_
      refine WL.pure (v := .bool false) 37 rfl (Nat.le_of_ble_eq_true rfl) rfl rfl (by kernel_rfl) ?_
      refine WL.pass 38 rfl (Nat.le_of_ble_eq_true rfl) rfl ?_
      refine WL.pass 39 rfl (Nat.le_of_ble_eq_true rfl) rfl ?_
      refine WL.pure (v := .bool false) 40 rfl (Nat.le_of_ble_eq_true rfl) rfl rfl (by kernel_rfl) ?_
      refine WL.pure (v := .bool false) 41 rfl (Nat.le_of_ble_eq_true rfl) rfl rfl (by kernel_rfl) ?_
      refine WL.pass 42 rfl (Nat.le_of_ble_eq_true rfl) rfl ?_
      refine WL.pass 43 rfl (Nat.le_of_ble_eq_true rfl) rfl ?_
      refine WL.pure (v := .bool false) 44 rfl (Nat.le_of_ble_eq_true rfl) rfl rfl (by kernel_rfl) ?_
      refine WL.nil ?_
      refine WQ.then ?_
      refine hK15 _ _ _ ?_
      refine WC.sub (l' := [(1, .slice p n cap), (5, .pointer none), (7, .pointer none), (8, vI 1), (9, vI (i : Int)), (44, .bool false)]) ⟨rfl, rfl, rfl, rfl, rfl, rfl, trivial⟩ ?_
      refine WC.no rfl ?_
      refine WC.exit ?_
      refine WQ.thenExit ?_
      refine WQ.thenExit ?_
      refine WQ.inExit ?_
      refine WQ.then ?_
      refine hK9 _ _ _ ?_
      refine WC.seq fun K42 hK42 => ?_
      refine WC.region ?_
      refine WL.pure (v := .pointer none) 126 rfl (Nat.le_of_ble_eq_true rfl) rfl rfl (by kernel_rfl) ?_
      refine WL.call (f := 33) (args := #[.pointer none]) 127 rfl (Nat.le_of_ble_eq_true rfl) rfl rfl (by kernel_rfl) ?_
      refine (Items_nil _).mono ?_
      rintro e w43 ⟨rfl, hb44⟩
      refine ⟨_, rfl, ?_⟩
      have hH45 : HP Tr w _ [] := HP.call hH13 hb44
      refine WL.pure (v := .pointer none) 128 rfl (Nat.le_of_ble_eq_true rfl) rfl rfl (by kernel_rfl) ?_
      refine WL.call (f := 34) (args := #[.pointer none]) 129 rfl (Nat.le_of_ble_eq_true rfl) rfl rfl (by kernel_rfl) ?_
      refine (rItems_nil _).mono ?_
      rintro e w46 ⟨rfl, hb47⟩
      refine ⟨_, rfl, ?_⟩
      have hH48 : HP Tr w _ [] := HP.call hH45 hb47
      refine WL.call (f := 32) (args := #[.slice none 0 0, .slice none 0 0]) 130 rfl (Nat.le_of_ble_eq_true rfl) rfl rfl (by kernel_rfl) ?_
      refine (Ints_any none none 0 0 [] _ (own_nil _) (own_nil _) (by simp)).mono ?_
      rintro e w49 ⟨rfl, hb50⟩
      refine ⟨_, rfl, ?_⟩
      have hH51 : HP Tr w _ [] := HP.call hH48 hb50
      refine WL.pure (v := .bool true) 131 rfl (Nat.le_of_ble_eq_true rfl) rfl rfl (by kernel_rfl) ?_
      refine WL.call (f := 11) (args := #[]) 132 rfl (Nat.le_of_ble_eq_true rfl) rfl rfl (by kernel_rfl) ?_
      refine (sane_any _).mono ?_
      rintro e w52 ⟨rfl, hb53⟩
      refine ⟨_, rfl, ?_⟩
      have hH54 : HP Tr w _ [] := HP.call hH51 hb53
      refine WL.pure (v := .bool true) 133 rfl (Nat.le_of_ble_eq_true rfl) rfl rfl (by kernel_rfl) ?_
      refine WL.pure (v := .bool true) 4 rfl (Nat.le_of_ble_eq_true rfl) rfl rfl (by kernel_rfl) ?_
      refine WL.nil ?_
      refine WQ.then ?_
      refine hK42 _ _ _ ?_
      refine WC.sub (l' := [(1, .slice p n cap), (4, .bool true), (5, .pointer none), (7, .pointer none), (8, vI 1), (9, vI (i : Int)), (44, .bool false)]) ⟨rfl, rfl, rfl, rfl, rfl, rfl, rfl, trivial⟩ ?_
      refine WC.ret ?_
      refine WQ.ret1 4 rfl rfl ?_
      exact ⟨rfl, HP.below hH54⟩
  ·
    refine ⟨_, rfl, ?_⟩
    obtain ⟨hR1, hR2⟩ := Lc.rm_t hrm
    have hH55 : HP Tr w _ [.cel l #[vI R, .slice none ([] : List Int).length 0] 91, .own (.slice none ([] : List Int).length 0) ([] : List Int).length (iL ([] : List Int)) 3 1] := HP.trans hH1 hb
    refine WL.pure (v := .tuple #[vP l 0, vI 0]) 20 rfl (Nat.le_of_ble_eq_true rfl) rfl rfl (by kernel_rfl) ?_
    refine WL.pure (v := vP l 0) 23 rfl (Nat.le_of_ble_eq_true rfl) rfl rfl (by kernel_rfl) ?_
    refine WL.pure (v := vI 0) 24 rfl (Nat.le_of_ble_eq_true rfl) rfl rfl (by kernel_rfl) ?_
    refine WL.pure (v := vP l 0) 5 rfl (Nat.le_of_ble_eq_true rfl) rfl rfl (by kernel_rfl) ?_
    refine WL.pure (v := vI 0) 6 rfl (Nat.le_of_ble_eq_true rfl) rfl rfl (by kernel_rfl) ?_
    refine WL.nil ?_
    refine WQ.then ?_
    refine hK3 _ _ _ ?_
    refine WC.seq fun K56 hK56 => ?_
    refine WC.region ?_
    refine WL.pure (v := vI R) 26 rfl (Nat.le_of_ble_eq_true rfl) rfl rfl (by kernel_rfl) ?_
    refine WL.call (f := 25) (args := #[vI R]) 27 rfl (Nat.le_of_ble_eq_true rfl) rfl rfl (by kernel_rfl) ?_
    refine (rNewList_any R _).mono ?_
    rintro e w2 (⟨hrm2, -⟩ | ⟨-, r, rfl, hb⟩)
    · rw [hrm] at hrm2; cases hrm2
    refine ⟨_, rfl, ?_⟩
    have hH57 : HP Tr w _ [.cel l #[vI R, .slice none ([] : List Int).length 0] 91, .own (.slice none ([] : List Int).length 0) ([] : List Int).length (iL ([] : List Int)) 3 1, .cel r #[.slice none ([] : List Int).length 0, vI R] 93, .own (.slice none ([] : List Int).length 0) ([] : List Int).length (iL ([] : List Int)) 3 1] := HP.trans hH55 hb
    refine WL.pure (v := .tuple #[vP r 0, vI 0]) 25 rfl (Nat.le_of_ble_eq_true rfl) rfl rfl (by kernel_rfl) ?_
    refine WL.pure (v := vP r 0) 28 rfl (Nat.le_of_ble_eq_true rfl) rfl rfl (by kernel_rfl) ?_
    refine WL.pure (v := vI 0) 29 rfl (Nat.le_of_ble_eq_true rfl) rfl rfl (by kernel_rfl) ?_
    refine WL.pure (v := vP r 0) 7 rfl (Nat.le_of_ble_eq_true rfl) rfl rfl (by kernel_rfl) ?_
    refine WL.pure (v := vI 0) 8 rfl (Nat.le_of_ble_eq_true rfl) rfl rfl (by kernel_rfl) ?_
    refine WL.nil ?_
    refine WQ.then ?_
    refine hK56 _ _ _ ?_
    refine WC.sub (l' := [(0, vI R), (1, .slice p n cap), (4, .bool false), (5, vP l 0), (6, vI 0), (7, vP r 0), (8, vI 0)]) ⟨rfl, rfl, rfl, rfl, rfl, rfl, rfl, trivial⟩ ?_
    refine WC.seq fun K58 hK58 => ?_
    refine WC.seq fun K59 hK59 => ?_
    refine WC.region ?_
    refine WL.pure (v := vI 0) 30 rfl (Nat.le_of_ble_eq_true rfl) rfl rfl (by kernel_rfl) ?_
    refine WL.pure (v := vI 0) 31 rfl (Nat.le_of_ble_eq_true rfl) rfl rfl (by kernel_rfl) ?_
    refine WL.pure (v := .bool false) 32 rfl (Nat.le_of_ble_eq_true rfl) rfl rfl (x_neq rfl rfl rfl (by decide)) ?_
    refine WL.nil ?_
    refine WQ.then ?_
    refine hK59 _ _ _ ?_
    refine WC.no rfl ?_
    refine WC.skip ?_
    refine WQ.then ?_
    refine hK58 _ _ _ ?_
    refine WC.seq fun K60 hK60 => ?_
    refine WC.seq fun K61 hK61 => ?_
    refine WC.region ?_
    refine WL.pure (v := vI 0) 9 rfl (Nat.le_of_ble_eq_true rfl) rfl rfl (by kernel_rfl) ?_
    refine WL.nil ?_
    refine WQ.then ?_
    refine hK61 _ _ _ ?_
    refine WC.block ?_
    refine WC.loop (fun kk0 ll0 ww0 => ∃ (i : Nat) (xs : List Int) (pv : Option Addr) (cp : Nat) (qv : Option Addr) (cq : Nat), ll0 = [(1, .slice p n cap), (5, vP l 0), (7, vP r 0), (8, vI 0), (9, vI (i : Int))] ∧ kk0 = n - i ∧ (i ≤ n) ∧ ((xs.length : Int) ≤ R) ∧ HP Tr w ww0 [.cel l #[vI R, .slice pv xs.length cp] 91, .own (.slice pv xs.length cp) xs.length (iL xs) 3 1, .cel r #[.slice qv xs.length cq, vI R] 93, .own (.slice qv xs.length cq) xs.length (iL xs) 3 1]) (n) [(1, .slice p n cap), (5, vP l 0), (7, vP r 0), (8, vI 0), (9, vI 0)] ⟨rfl, rfl, rfl, rfl, rfl, trivial⟩ ⟨0, [], none, 0, none, 0, rfl, rfl, Nat.zero_le _, by simp; omega, hH57⟩ ?_
    rintro kk l w63 ⟨i, xs, pv, cp, qv, cq, rfl, hkk, hi, hx, hH64⟩ K62 hK62
    refine WC.seq fun K65 hK65 => ?_
    refine WC.seq fun K66 hK66 => ?_
    refine WC.region ?_
    refine WL.pure (v := vI (i : Int)) 33 rfl (Nat.le_of_ble_eq_true rfl) rfl rfl (by kernel_rfl) ?_
    refine WL.pure (v := .slice p n cap) 34 rfl (Nat.le_of_ble_eq_true rfl) rfl rfl (by kernel_rfl) ?_
    refine WL.pure (v := vI (n : Int)) 35 rfl (Nat.le_of_ble_eq_true rfl) rfl rfl (by kernel_rfl) ?_
    by_cases hlt : (i : Int) < (n : Int)
    ·
      refine WL.pure (v := .bool true) 36 rfl (Nat.le_of_ble_eq_true rfl) rfl rfl (x_lss rfl rfl rfl (dT (hlt))) ?_
      refine WL.pure (v := .bool true) 37 rfl (Nat.le_of_ble_eq_true rfl) rfl rfl (by kernel_rfl) ?_
      refine WL.pure (v := vI (i : Int)) 38 rfl (Nat.le_of_ble_eq_true rfl) rfl rfl (by kernel_rfl) ?_
      by_cases h120 : (i : Int) < 120
      ·
        refine WL.pure (v := .bool true) 39 rfl (Nat.le_of_ble_eq_true rfl) rfl rfl (x_lss rfl rfl rfl (dT (h120))) ?_
        refine WL.pure (v := .bool true) 40 rfl (Nat.le_of_ble_eq_true rfl) rfl rfl (by kernel_rfl) ?_
        refine WL.pure (v := .bool true) 41 rfl (Nat.le_of_ble_eq_true rfl) rfl rfl (by kernel_rfl) ?_
        refine WL.pure (v := vI 0) 42 rfl (Nat.le_of_ble_eq_true rfl) rfl rfl (by kernel_rfl) ?_
        refine WL.pure (v := .bool true) 43 rfl (Nat.le_of_ble_eq_true rfl) rfl rfl (x_eql rfl rfl rfl (by decide)) ?_
        refine WL.pure (v := .bool true) 44 rfl (Nat.le_of_ble_eq_true rfl) rfl rfl (by kernel_rfl) ?_
        refine WL.nil ?_
        refine WQ.then ?_
        refine hK66 _ _ _ ?_
        refine WC.sub (l' := [(1, .slice p n cap), (5, vP l 0), (7, vP r 0), (8, vI 0), (9, vI (i : Int)), (44, .bool true)]) ⟨rfl, rfl, rfl, rfl, rfl, rfl, trivial⟩ ?_
        refine WC.yes rfl ?_
        refine WC.skip ?_
        refine WQ.then ?_
        refine hK65 _ _ _ ?_
        refine WC.seq fun K67 hK67 => ?_
        refine WC.block ?_
        refine WC.seq fun K68 hK68 => ?_
        obtain ⟨bb, oo, rfl, hops⟩ := ops_in hrow (by omega)
        refine WC.region ?_
        refine WL.pure (v := .slice (some ⟨bb, oo, none⟩) n cap) 47 rfl (Nat.le_of_ble_eq_true rfl) rfl rfl (by kernel_rfl) ?_
        refine WL.pure (v := vI (i : Int)) 48 rfl (Nat.le_of_ble_eq_true rfl) rfl rfl (by kernel_rfl) ?_
        refine WL.pure (v := vP bb (oo + i * 5)) 49 rfl (Nat.le_of_ble_eq_true rfl) rfl rfl (x_idx (i) (oo + i * 5) rfl rfl rfl Try.underlying22 sz30 (by omega) (by omega) (by omega)) ?_
        refine WL.pure (v := .agg #[vI ((f i).d), vI ((f i).a), vI ((f i).v), .bool ((f i).f), .string ((f i).s)]) 50 rfl (Nat.le_of_ble_eq_true rfl) rfl rfl (x_loadS (cs := [vI ((f i).d), vI ((f i).a), vI ((f i).v), .bool ((f i).f), .string ((f i).s)]) rfl rfl Try.underlying30 rfl sz30 (HP.oldRange hH64 trivial (hops i (by omega)))) ?_
        refine WL.alloc (c := #[vI 0, vI 0, vI 0, .bool false, .string (⟨#[]⟩)]) (T := 30) hH64 10 rfl (by decide) rfl rfl (fun b69 => vP b69 0) (by kernel_rfl) (fun b69 w70 hw70 => ?_)
        have hH71 : HP Tr w w70 [.cel l #[vI R, .slice pv xs.length cp] 91, .own (.slice pv xs.length cp) xs.length (iL xs) 3 1, .cel r #[.slice qv xs.length cq, vI R] 93, .own (.slice qv xs.length cq) xs.length (iL xs) 3 1, .cel b69 #[vI 0, vI 0, vI 0, .bool false, .string (⟨#[]⟩)] 30] := hw70.2
        have nb69 := hw70.1
        clear hw70
        refine WL.storeS (H2 := [.cel l #[vI R, .slice pv xs.length cp] 91, .own (.slice pv xs.length cp) xs.length (iL xs) 3 1, .cel r #[.slice qv xs.length cq, vI R] 93, .own (.slice qv xs.length cq) xs.length (iL xs) 3 1, .cel b69 #[vI ((f i).d), vI ((f i).a), vI ((f i).v), .bool ((f i).f), .string ((f i).s)] 30]) 4 hH71 rfl rfl rfl rfl rfl rfl sz30 rfl (Nat.le_of_ble_eq_true rfl) rfl rfl ?_
        intro w72 hH73
        refine WL.nil ?_
        refine WQ.then ?_
        refine hK68 _ _ _ ?_
        refine WC.seq fun K74 hK74 => ?_
        refine WC.region ?_
        refine WL.pure (v := .bool true) 11 rfl (Nat.le_of_ble_eq_true rfl) rfl rfl (by kernel_rfl) ?_
        refine WL.nil ?_
        refine WQ.then ?_
        refine hK74 _ _ _ ?_
        refine WC.seq fun K75 hK75 => ?_
        refine WC.seq fun K76 hK76 => ?_
        refine WC.region ?_
        refine WL.pure (v := vP b69 0) 51 rfl (Nat.le_of_ble_eq_true rfl) rfl rfl (by kernel_rfl) ?_
        refine WL.pure (v := vI ((f i).d)) 52 rfl (Nat.le_of_ble_eq_true rfl) rfl rfl (x_load rfl rfl Try.underlying3 rfl (HP.cell hH73 4 rfl rfl)) ?_
        refine WL.nil ?_
        refine WQ.then ?_
        refine hK76 _ _ _ ?_
        refine WC.block ?_
        refine WC.seq fun K77 hK77 => ?_
        refine WC.region ?_
        by_cases h1 : (f i).d = 1
        ·
          refine WL.pure (v := .bool true) 54 rfl (Nat.le_of_ble_eq_true rfl) rfl rfl (x_eql rfl rfl rfl (dT (h1))) ?_
          refine WL.pure (v := .bool true) 53 rfl (Nat.le_of_ble_eq_true rfl) rfl rfl (by kernel_rfl) ?_
          refine WL.nil ?_
          refine WQ.then ?_
          refine hK77 _ _ _ ?_
          refine WC.sub (l' := [(1, .slice (some ⟨bb, oo, none⟩) n cap), (5, vP l 0), (7, vP r 0), (8, vI 0), (9, vI (i : Int)), (10, vP b69 0), (11, .bool true), (44, .bool true), (52, vI ((f i).d)), (53, .bool true)]) ⟨rfl, rfl, rfl, rfl, rfl, rfl, rfl, rfl, rfl, rfl, trivial⟩ ?_
          refine WC.yes rfl ?_
          refine WC.confG (γ := (Option Addr × Nat) × (Option Addr × Nat)) [(1, .slice (some ⟨bb, oo, none⟩) n cap), (5, vP l 0), (7, vP r 0), (8, vI 0), (9, vI (i : Int)), (10, vP b69 0), (44, .bool true), (52, vI ((f i).d)), (53, .bool true)] (fun y => [vP l 0, vP b69 1, vI (f i).a, vP b69 3, .bool (f i).f, vI (psE R xs (f i).a), vP r 0, vP b69 1, vI (f i).a, vP b69 3, .bool (f i).f, vI (psE R xs (f i).a), .bool true, .bool true]) (fun y D wz => HP Tr w wz ((bif D 5 then [Ent.cel l #[vI R, .slice y.1.1 (psX R xs (f i).a (f i).f).length y.1.2] 91, Ent.own (.slice y.1.1 (psX R xs (f i).a (f i).f).length y.1.2) (psX R xs (f i).a (f i).f).length (iL (psX R xs (f i).a (f i).f)) 3 1] else [Ent.cel l #[vI R, .slice pv xs.length cp] 91, Ent.own (.slice pv xs.length cp) xs.length (iL xs) 3 1]) ++ ((bif D 11 then [Ent.cel r #[.slice y.2.1 (psX R xs (f i).a (f i).f).length y.2.2, vI R] 93, Ent.own (.slice y.2.1 (psX R xs (f i).a (f i).f).length y.2.2) (psX R xs (f i).a (f i).f).length (iL (psX R xs (f i).a (f i).f)) 3 1] else [Ent.cel r #[.slice qv xs.length cq, vI R] 93, Ent.own (.slice qv xs.length cq) xs.length (iL xs) 3 1]) ++ [.cel b69 #[vI ((f i).d), vI ((f i).a), vI ((f i).v), .bool ((f i).f), .string ((f i).s)] 30]))) ((none, 0), (none, 0)) (by kernel_rfl) ⟨rfl, rfl, rfl, rfl, rfl, rfl, rfl, rfl, rfl, trivial⟩ (by kernel_rfl) (by kernel_rfl) (by kernel_rfl) (fun _ => rfl) (by kernel_rfl) (HP.drew hH73) ?_ ?_
          · refine AllOk.cons ?o0 (AllOk.cons ?o1 (AllOk.cons ?o2 (AllOk.cons ?o3 (AllOk.cons ?o4 (AllOk.cons ?o5 (AllOk.cons ?o6 (AllOk.cons ?o7 (AllOk.cons ?o8 (AllOk.cons ?o9 (AllOk.cons ?o10 (AllOk.cons ?o11 (AllOk.cons ?o12 (AllOk.cons ?o13 (AllOk.nil _))))))))))))))
            case o0 =>
              intro y D wz hDi hdep hclo hW
              exact .inl ⟨rfl, rfl, .inl ⟨y, wz, fun _ _ => rfl, by kernel_rfl, hW⟩⟩
            case o1 =>
              intro y D wz hDi hdep hclo hW
              exact .inl ⟨rfl, rfl, .inl ⟨y, wz, fun _ _ => rfl, by kernel_rfl, hW⟩⟩
            case o2 =>
              intro y D wz hDi hdep hclo hW
              have hq : wz.cell? ⟨b69, 1, none⟩ = some (vI (f i).a) := by
                cases h5 : D 5 <;> cases h11 : D 11 <;> simp only [h5, h11, cond_true, cond_false] at hW <;> exact HP.cell hW 4 rfl rfl
              exact .inl ⟨rfl, rfl, .inl ⟨y, wz, fun _ _ => rfl, x_load rfl rfl Try.underlying3 rfl hq, hW⟩⟩
            case o3 =>
              intro y D wz hDi hdep hclo hW
              exact .inl ⟨rfl, rfl, .inl ⟨y, wz, fun _ _ => rfl, by kernel_rfl, hW⟩⟩
            case o4 =>
              intro y D wz hDi hdep hclo hW
              have hq : wz.cell? ⟨b69, 3, none⟩ = some (.bool (f i).f) := by
                cases h5 : D 5 <;> cases h11 : D 11 <;> simp only [h5, h11, cond_true, cond_false] at hW <;> exact HP.cell hW 4 rfl rfl
              exact .inl ⟨rfl, rfl, .inl ⟨y, wz, fun _ _ => rfl, x_load rfl rfl Try.underlying4 rfl hq, hW⟩⟩
            case o5 =>
              intro y D wz hDi hdep hclo hW
              simp only [hDi, cond_false] at hW
              refine .inl ⟨rfl, rfl, .inr (.inr ⟨26, #[vP l 0, vI (f i).a, .bool (f i).f], by kernel_rfl, (Push_any l R pv cp xs (f i).a (f i).f _ (HP.ownF (A := [Ent.cel l #[vI R, .slice pv xs.length cp] 91, Ent.own (.slice pv xs.length cp) xs.length (iL xs) 3 1]) hW) hR1 (by omega)).mono ?_⟩)⟩
              rintro e w3 ⟨pv3, cp3, he, hb3⟩
              refine ⟨((pv3, cp3), y.2), fun j hj => ?_, he, ?_⟩
              · match j, hj with
                | 0, hj => rfl
                | 1, hj => rfl
                | 2, hj => rfl
                | 3, hj => rfl
                | 4, hj => rfl
                | 5, hj => rfl
                | 6, hj => rfl
                | 7, hj => rfl
                | 8, hj => rfl
                | 9, hj => rfl
                | 10, hj => rfl
                | 11, hj => rfl
                | 12, hj => rfl
                | 13, hj => rfl
                | j + 14, _ => rfl
              · exact HP.exchF (A := [Ent.cel l #[vI R, .slice pv xs.length cp] 91, Ent.own (.slice pv xs.length cp) xs.length (iL xs) 3 1]) hW hb3
            case o6 =>
              intro y D wz hDi hdep hclo hW
              exact .inl ⟨rfl, rfl, .inl ⟨y, wz, fun _ _ => rfl, by kernel_rfl, hW⟩⟩
            case o7 =>
              intro y D wz hDi hdep hclo hW
              exact .inl ⟨rfl, rfl, .inl ⟨y, wz, fun _ _ => rfl, by kernel_rfl, hW⟩⟩
            case o8 =>
              intro y D wz hDi hdep hclo hW
              have hq : wz.cell? ⟨b69, 1, none⟩ = some (vI (f i).a) := by
                cases h5 : D 5 <;> cases h11 : D 11 <;> simp only [h5, h11, cond_true, cond_false] at hW <;> exact HP.cell hW 4 rfl rfl
              exact .inl ⟨rfl, rfl, .inl ⟨y, wz, fun _ _ => rfl, x_load rfl rfl Try.underlying3 rfl hq, hW⟩⟩
            case o9 =>
              intro y D wz hDi hdep hclo hW
              exact .inl ⟨rfl, rfl, .inl ⟨y, wz, fun _ _ => rfl, by kernel_rfl, hW⟩⟩
            case o10 =>
              intro y D wz hDi hdep hclo hW
              have hq : wz.cell? ⟨b69, 3, none⟩ = some (.bool (f i).f) := by
                cases h5 : D 5 <;> cases h11 : D 11 <;> simp only [h5, h11, cond_true, cond_false] at hW <;> exact HP.cell hW 4 rfl rfl
              exact .inl ⟨rfl, rfl, .inl ⟨y, wz, fun _ _ => rfl, x_load rfl rfl Try.underlying4 rfl hq, hW⟩⟩
            case o11 =>
              intro y D wz hDi hdep hclo hW
              simp only [hDi, cond_false] at hW
              refine .inl ⟨rfl, rfl, .inr (.inr ⟨27, #[vP r 0, vI (f i).a, .bool (f i).f], by kernel_rfl, (rPush_any r R qv cq xs (f i).a (f i).f _ (HP.ownM (R := [Ent.cel r #[.slice qv xs.length cq, vI R] 93, Ent.own (.slice qv xs.length cq) xs.length (iL xs) 3 1]) hW) hR1 (by omega)).mono ?_⟩)⟩
              rintro e w3 ⟨qv3, cq3, he, hb3⟩
              refine ⟨(y.1, (qv3, cq3)), fun j hj => ?_, he, ?_⟩
              · match j, hj with
                | 0, hj => rfl
                | 1, hj => rfl
                | 2, hj => rfl
                | 3, hj => rfl
                | 4, hj => rfl
                | 5, hj => rfl
                | 6, hj => rfl
                | 7, hj => rfl
                | 8, hj => rfl
                | 9, hj => rfl
                | 10, hj => rfl
                | 11, hj => rfl
                | 12, hj => rfl
                | 13, hj => rfl
                | j + 14, _ => rfl
              · exact HP.exchM (R := [Ent.cel r #[.slice qv xs.length cq, vI R] 93, Ent.own (.slice qv xs.length cq) xs.length (iL xs) 3 1]) hW hb3
            case o12 =>
              intro y D wz hDi hdep hclo hW
              exact .inl ⟨rfl, rfl, .inl ⟨y, wz, fun _ _ => rfl, x_eql rfl rfl rfl (dT rfl), hW⟩⟩
            case o13 =>
              intro y D wz hDi hdep hclo hW
              exact .inl ⟨rfl, rfl, .inl ⟨y, wz, fun _ _ => rfl, by kernel_rfl, hW⟩⟩
          rintro ⟨⟨pv3, cp3⟩, qv3, cq3⟩ D w9 hall hW
          simp only [hall 5 (by kernel_rfl), hall 11 (by kernel_rfl), cond_true] at hW
          clear hall
          refine WQ.sub (l' := [(1, .slice (some ⟨bb, oo, none⟩) n cap), (5, vP l 0), (7, vP r 0), (8, vI 0), (9, vI (i : Int)), (10, vP b69 0), (11, .bool true), (44, .bool true), (52, vI ((f i).d)), (53, .bool true)]) ⟨rfl, rfl, rfl, rfl, rfl, rfl, rfl, rfl, rfl, rfl, trivial⟩ ?_
          have hH78 : HP Tr w _ [.cel l #[vI R, .slice pv3 (psX R xs (f i).a (f i).f).length cp3] 91, .own (.slice pv3 (psX R xs (f i).a (f i).f).length cp3) (psX R xs (f i).a (f i).f).length (iL (psX R xs (f i).a (f i).f)) 3 1, .cel r #[.slice qv3 (psX R xs (f i).a (f i).f).length cq3, vI R] 93, .own (.slice qv3 (psX R xs (f i).a (f i).f).length cq3) (psX R xs (f i).a (f i).f).length (iL (psX R xs (f i).a (f i).f)) 3 1, .cel b69 #[vI ((f i).d), vI ((f i).a), vI ((f i).v), .bool ((f i).f), .string ((f i).s)] 30] := hW
          refine WQ.inNormal ?_
          refine WQ.then ?_
          refine hK75 _ _ _ ?_
          refine WC.seq fun K79 hK79 => ?_
          refine WC.region ?_
          refine WL.pure (v := .bool true) 116 rfl (Nat.le_of_ble_eq_true rfl) rfl rfl (by kernel_rfl) ?_
          refine WL.pure (v := .bool false) 117 rfl (Nat.le_of_ble_eq_true rfl) rfl rfl (by kernel_rfl) ?_
          refine WL.pure (v := .bool false) 118 rfl (Nat.le_of_ble_eq_true rfl) rfl rfl (by kernel_rfl) ?_
          refine WL.pure (v := vP l 0) 119 rfl (Nat.le_of_ble_eq_true rfl) rfl rfl (by kernel_rfl) ?_
          have hlx : ((psX R xs (f i).a (f i).f).length : Int) ≤ R := len_ps hx
          refine WL.call (f := 33) (args := #[vP l 0]) 120 rfl (Nat.le_of_ble_eq_true rfl) rfl rfl (by kernel_rfl) ?_
          refine (Items_any l R pv3 cp3 (psX R xs (f i).a (f i).f) _ (HP.ownF (A := [.cel l #[vI R, .slice pv3 (psX R xs (f i).a (f i).f).length cp3] 91, .own (.slice pv3 (psX R xs (f i).a (f i).f).length cp3) (psX R xs (f i).a (f i).f).length (iL (psX R xs (f i).a (f i).f)) 3 1]) (B := [.cel r #[.slice qv3 (psX R xs (f i).a (f i).f).length cq3, vI R] 93, .own (.slice qv3 (psX R xs (f i).a (f i).f).length cq3) (psX R xs (f i).a (f i).f).length (iL (psX R xs (f i).a (f i).f)) 3 1, .cel b69 #[vI ((f i).d), vI ((f i).a), vI ((f i).v), .bool ((f i).f), .string ((f i).s)] 30]) hH78) hR1 (by omega)).mono ?_
          rintro e w80 ⟨ia, ca, rfl, hb81⟩
          refine ⟨_, rfl, ?_⟩
          have hH82 : HP Tr w _ [.cel l #[vI R, .slice pv3 (psX R xs (f i).a (f i).f).length cp3] 91, .own (.slice pv3 (psX R xs (f i).a (f i).f).length cp3) (psX R xs (f i).a (f i).f).length (iL (psX R xs (f i).a (f i).f)) 3 1, .cel r #[.slice qv3 (psX R xs (f i).a (f i).f).length cq3, vI R] 93, .own (.slice qv3 (psX R xs (f i).a (f i).f).length cq3) (psX R xs (f i).a (f i).f).length (iL (psX R xs (f i).a (f i).f)) 3 1, .cel b69 #[vI ((f i).d), vI ((f i).a), vI ((f i).v), .bool ((f i).f), .string ((f i).s)] 30, .own (.slice ia (psX R xs (f i).a (f i).f).length ca) (psX R xs (f i).a (f i).f).length (iL (psX R xs (f i).a (f i).f)) 3 1] := HP.trans hH78 hb81
          refine WL.pure (v := vP r 0) 121 rfl (Nat.le_of_ble_eq_true rfl) rfl rfl (by kernel_rfl) ?_
          refine WL.call (f := 34) (args := #[vP r 0]) 122 rfl (Nat.le_of_ble_eq_true rfl) rfl rfl (by kernel_rfl) ?_
          refine (rItems_any r R qv3 cq3 (psX R xs (f i).a (f i).f) _ (HP.ownM (A := [.cel l #[vI R, .slice pv3 (psX R xs (f i).a (f i).f).length cp3] 91, .own (.slice pv3 (psX R xs (f i).a (f i).f).length cp3) (psX R xs (f i).a (f i).f).length (iL (psX R xs (f i).a (f i).f)) 3 1]) (R := [.cel r #[.slice qv3 (psX R xs (f i).a (f i).f).length cq3, vI R] 93, .own (.slice qv3 (psX R xs (f i).a (f i).f).length cq3) (psX R xs (f i).a (f i).f).length (iL (psX R xs (f i).a (f i).f)) 3 1]) (C := [.cel b69 #[vI ((f i).d), vI ((f i).a), vI ((f i).v), .bool ((f i).f), .string ((f i).s)] 30, .own (.slice ia (psX R xs (f i).a (f i).f).length ca) (psX R xs (f i).a (f i).f).length (iL (psX R xs (f i).a (f i).f)) 3 1]) hH82) hR1 (by omega)).mono ?_
          rintro e w83 ⟨ib, cb, rfl, hb84⟩
          refine ⟨_, rfl, ?_⟩
          have hH85 : HP Tr w _ [.cel l #[vI R, .slice pv3 (psX R xs (f i).a (f i).f).length cp3] 91, .own (.slice pv3 (psX R xs (f i).a (f i).f).length cp3) (psX R xs (f i).a (f i).f).length (iL (psX R xs (f i).a (f i).f)) 3 1, .cel r #[.slice qv3 (psX R xs (f i).a (f i).f).length cq3, vI R] 93, .own (.slice qv3 (psX R xs (f i).a (f i).f).length cq3) (psX R xs (f i).a (f i).f).length (iL (psX R xs (f i).a (f i).f)) 3 1, .cel b69 #[vI ((f i).d), vI ((f i).a), vI ((f i).v), .bool ((f i).f), .string ((f i).s)] 30, .own (.slice ia (psX R xs (f i).a (f i).f).length ca) (psX R xs (f i).a (f i).f).length (iL (psX R xs (f i).a (f i).f)) 3 1, .own (.slice ib (psX R xs (f i).a (f i).f).length cb) (psX R xs (f i).a (f i).f).length (iL (psX R xs (f i).a (f i).f)) 3 1] := HP.trans hH82 hb84
          refine WL.call (f := 32) (args := #[.slice ia ((psX R xs (f i).a (f i).f).length) ca, .slice ib ((psX R xs (f i).a (f i).f).length) cb]) 123 rfl (Nat.le_of_ble_eq_true rfl) rfl rfl (by kernel_rfl) ?_
          refine (Ints_any _ _ _ _ (psX R xs (f i).a (f i).f) _ (HP.get hH85 5 rfl) (HP.get hH85 6 rfl) (by omega)).mono ?_
          rintro e w86 ⟨rfl, hb87⟩
          refine ⟨_, rfl, ?_⟩
          have hH88 : HP Tr w _ [.cel l #[vI R, .slice pv3 (psX R xs (f i).a (f i).f).length cp3] 91, .own (.slice pv3 (psX R xs (f i).a (f i).f).length cp3) (psX R xs (f i).a (f i).f).length (iL (psX R xs (f i).a (f i).f)) 3 1, .cel r #[.slice qv3 (psX R xs (f i).a (f i).f).length cq3, vI R] 93, .own (.slice qv3 (psX R xs (f i).a (f i).f).length cq3) (psX R xs (f i).a (f i).f).length (iL (psX R xs (f i).a (f i).f)) 3 1, .cel b69 #[vI ((f i).d), vI ((f i).a), vI ((f i).v), .bool ((f i).f), .string ((f i).s)] 30, .own (.slice ia (psX R xs (f i).a (f i).f).length ca) (psX R xs (f i).a (f i).f).length (iL (psX R xs (f i).a (f i).f)) 3 1, .own (.slice ib (psX R xs (f i).a (f i).f).length cb) (psX R xs (f i).a (f i).f).length (iL (psX R xs (f i).a (f i).f)) 3 1] := HP.call hH85 hb87
          refine WL.pure (v := .bool false) 124 rfl (Nat.le_of_ble_eq_true rfl) rfl rfl (by kernel_rfl) ?_
          refine WL.pure (v := .bool false) 125 rfl (Nat.le_of_ble_eq_true rfl) rfl rfl (by kernel_rfl) ?_
          refine WL.nil ?_
          refine WQ.then ?_
          refine hK79 _ _ _ ?_
          refine WC.sub (l' := [(1, .slice (some ⟨bb, oo, none⟩) n cap), (5, vP l 0), (7, vP r 0), (8, vI 0), (9, vI (i : Int)), (10, vP b69 0), (11, .bool true), (44, .bool true), (52, vI ((f i).d)), (53, .bool true), (125, .bool false)]) ⟨rfl, rfl, rfl, rfl, rfl, rfl, rfl, rfl, rfl, rfl, rfl, trivial⟩ ?_
          refine WC.no rfl ?_
          refine WC.skip ?_
          refine WQ.inNormal ?_
          refine WQ.then ?_
          refine hK67 _ _ _ ?_
          refine WC.region ?_
          refine WL.pure (v := vI (i : Int)) 45 rfl (Nat.le_of_ble_eq_true rfl) rfl rfl (by kernel_rfl) ?_
          refine WL.pure (v := vI ((i + 1 : Nat) : Int)) 46 rfl (Nat.le_of_ble_eq_true rfl) rfl rfl (x_add (Z := ((i + 1 : Nat) : Int)) rfl rfl rfl (by omega) (by omega) (by omega)) ?_
          refine WL.pure (v := vI ((i + 1 : Nat) : Int)) 9 rfl (Nat.le_of_ble_eq_true rfl) rfl rfl (by kernel_rfl) ?_
          refine WL.nil ?_
          refine WQ.sub (l' := [(1, .slice (some ⟨bb, oo, none⟩) n cap), (5, vP l 0), (7, vP r 0), (8, vI 0), (9, vI ((i + 1 : Nat) : Int))]) ⟨rfl, rfl, rfl, rfl, rfl, trivial⟩ ?_
          refine WQ.then (hK62 _ _ _ (by omega) ⟨i + 1, psX R xs (f i).a (f i).f, pv3, cp3, qv3, cq3, rfl, rfl, by omega, len_ps hx, (HP.drop (HP.drop (HP.drop hH88 6) 5) 4)⟩)
        ·
          refine WL.pure (v := .bool false) 54 rfl (Nat.le_of_ble_eq_true rfl) rfl rfl (x_eql rfl rfl rfl (dF (h1))) ?_
          refine WL.pure (v := .bool false) 53 rfl (Nat.le_of_ble_eq_true rfl) rfl rfl (by kernel_rfl) ?_
          refine WL.nil ?_
          refine WQ.then ?_
          refine hK77 _ _ _ ?_
          refine WC.sub (l' := [(1, .slice (some ⟨bb, oo, none⟩) n cap), (5, vP l 0), (7, vP r 0), (8, vI 0), (9, vI (i : Int)), (10, vP b69 0), (11, .bool true), (44, .bool true), (52, vI ((f i).d)), (53, .bool false)]) ⟨rfl, rfl, rfl, rfl, rfl, rfl, rfl, rfl, rfl, rfl, trivial⟩ ?_
          refine WC.no rfl ?_
          refine WC.seq fun K89 hK89 => ?_
          refine WC.region ?_
          by_cases h2 : (f i).d = 2
          ·
            refine WL.pure (v := .bool true) 69 rfl (Nat.le_of_ble_eq_true rfl) rfl rfl (x_eql rfl rfl rfl (dT (h2))) ?_
            refine WL.pure (v := .bool true) 68 rfl (Nat.le_of_ble_eq_true rfl) rfl rfl (by kernel_rfl) ?_
            refine WL.nil ?_
            refine WQ.then ?_
            refine hK89 _ _ _ ?_
            refine WC.yes rfl ?_
            refine WC.seq fun K90 hK90 => ?_
            refine WC.region ?_
            refine WL.pure (v := vP l 0) 71 rfl (Nat.le_of_ble_eq_true rfl) rfl rfl (by kernel_rfl) ?_
            refine WL.pure (v := vP b69 3) 72 rfl (Nat.le_of_ble_eq_true rfl) rfl rfl (by kernel_rfl) ?_
            refine WL.pure (v := .bool ((f i).f)) 73 rfl (Nat.le_of_ble_eq_true rfl) rfl rfl (x_load rfl rfl Try.underlying4 rfl (HP.cell hH73 4 rfl rfl)) ?_
            refine WL.call (f := 28) (args := #[vP l 0, .bool ((f i).f)]) 74 rfl (Nat.le_of_ble_eq_true rfl) rfl rfl (by kernel_rfl) ?_
            refine (Pop_any l R pv cp xs (f i).f _ (HP.ownF (A := [.cel l #[vI R, .slice pv xs.length cp] 91, .own (.slice pv xs.length cp) xs.length (iL xs) 3 1]) (B := [.cel r #[.slice qv xs.length cq, vI R] 93, .own (.slice qv xs.length cq) xs.length (iL xs) 3 1, .cel b69 #[vI ((f i).d), vI ((f i).a), vI ((f i).v), .bool ((f i).f), .string ((f i).s)] 30]) hH73) hR1 (by omega)).mono ?_
            rintro e w3 ⟨pv3, cp3, rfl, hb3⟩
            refine ⟨_, rfl, ?_⟩
            have hH91 : HP Tr w _ [.cel l #[vI R, .slice pv3 (ppX xs (f i).f).length cp3] 91, .own (.slice pv3 (ppX xs (f i).f).length cp3) (ppX xs (f i).f).length (iL (ppX xs (f i).f)) 3 1, .cel r #[.slice qv xs.length cq, vI R] 93, .own (.slice qv xs.length cq) xs.length (iL xs) 3 1, .cel b69 #[vI ((f i).d), vI ((f i).a), vI ((f i).v), .bool ((f i).f), .string ((f i).s)] 30] := HP.exchF (A := [.cel l #[vI R, .slice pv xs.length cp] 91, .own (.slice pv xs.length cp) xs.length (iL xs) 3 1]) (B := [.cel r #[.slice qv xs.length cq, vI R] 93, .own (.slice qv xs.length cq) xs.length (iL xs) 3 1, .cel b69 #[vI ((f i).d), vI ((f i).a), vI ((f i).v), .bool ((f i).f), .string ((f i).s)] 30]) hH73 hb3
            refine WL.pure (v := .tuple #[vI (ppV xs (f i).f), vI (ppE xs)]) 70 rfl (Nat.le_of_ble_eq_true rfl) rfl rfl (by kernel_rfl) ?_
            refine WL.pure (v := vI (ppV xs (f i).f)) 75 rfl (Nat.le_of_ble_eq_true rfl) rfl rfl (by kernel_rfl) ?_
            refine WL.pure (v := vI (ppE xs)) 76 rfl (Nat.le_of_ble_eq_true rfl) rfl rfl (by kernel_rfl) ?_
            refine WL.pure (v := vI (ppV xs (f i).f)) 12 rfl (Nat.le_of_ble_eq_true rfl) rfl rfl (by kernel_rfl) ?_
            refine WL.pure (v := vI (ppE xs)) 13 rfl (Nat.le_of_ble_eq_true rfl) rfl rfl (by kernel_rfl) ?_
            refine WL.nil ?_
            refine WQ.then ?_
            refine hK90 _ _ _ ?_
            refine WC.sub (l' := [(1, .slice (some ⟨bb, oo, none⟩) n cap), (5, vP l 0), (7, vP r 0), (8, vI 0), (9, vI (i : Int)), (10, vP b69 0), (11, .bool true), (12, vI (ppV xs (f i).f)), (13, vI (ppE xs)), (44, .bool true), (52, vI ((f i).d)), (53, .bool false), (68, .bool true)]) ⟨rfl, rfl, rfl, rfl, rfl, rfl, rfl, rfl, rfl, rfl, rfl, rfl, rfl, trivial⟩ ?_
            refine WC.seq fun K92 hK92 => ?_
            refine WC.region ?_
            refine WL.pure (v := vP r 0) 78 rfl (Nat.le_of_ble_eq_true rfl) rfl rfl (by kernel_rfl) ?_
            refine WL.pure (v := vP b69 3) 79 rfl (Nat.le_of_ble_eq_true rfl) rfl rfl (by kernel_rfl) ?_
            refine WL.pure (v := .bool ((f i).f)) 80 rfl (Nat.le_of_ble_eq_true rfl) rfl rfl (x_load rfl rfl Try.underlying4 rfl (HP.cell hH91 4 rfl rfl)) ?_
            refine WL.call (f := 29) (args := #[vP r 0, .bool ((f i).f)]) 81 rfl (Nat.le_of_ble_eq_true rfl) rfl rfl (by kernel_rfl) ?_
            refine (rPop_any r R qv cq xs (f i).f _ (HP.ownM (A := [.cel l #[vI R, .slice pv3 (ppX xs (f i).f).length cp3] 91, .own (.slice pv3 (ppX xs (f i).f).length cp3) (ppX xs (f i).f).length (iL (ppX xs (f i).f)) 3 1]) (R := [.cel r #[.slice qv xs.length cq, vI R] 93, .own (.slice qv xs.length cq) xs.length (iL xs) 3 1]) (C := [.cel b69 #[vI ((f i).d), vI ((f i).a), vI ((f i).v), .bool ((f i).f), .string ((f i).s)] 30]) hH91) hR1 (by omega)).mono ?_
            rintro e w4 ⟨qv3, cq3, rfl, hb4⟩
            refine ⟨_, rfl, ?_⟩
            have hH93 : HP Tr w _ [.cel l #[vI R, .slice pv3 (ppX xs (f i).f).length cp3] 91, .own (.slice pv3 (ppX xs (f i).f).length cp3) (ppX xs (f i).f).length (iL (ppX xs (f i).f)) 3 1, .cel r #[.slice qv3 (ppX xs (f i).f).length cq3, vI R] 93, .own (.slice qv3 (ppX xs (f i).f).length cq3) (ppX xs (f i).f).length (iL (ppX xs (f i).f)) 3 1, .cel b69 #[vI ((f i).d), vI ((f i).a), vI ((f i).v), .bool ((f i).f), .string ((f i).s)] 30] := HP.exchM (A := [.cel l #[vI R, .slice pv3 (ppX xs (f i).f).length cp3] 91, .own (.slice pv3 (ppX xs (f i).f).length cp3) (ppX xs (f i).f).length (iL (ppX xs (f i).f)) 3 1]) (R := [.cel r #[.slice qv xs.length cq, vI R] 93, .own (.slice qv xs.length cq) xs.length (iL xs) 3 1]) (C := [.cel b69 #[vI ((f i).d), vI ((f i).a), vI ((f i).v), .bool ((f i).f), .string ((f i).s)] 30]) hH91 hb4
            refine WL.pure (v := .tuple #[vI (ppV xs (f i).f), vI (ppE xs)]) 77 rfl (Nat.le_of_ble_eq_true rfl) rfl rfl (by kernel_rfl) ?_
            refine WL.pure (v := vI (ppV xs (f i).f)) 82 rfl (Nat.le_of_ble_eq_true rfl) rfl rfl (by kernel_rfl) ?_
            refine WL.pure (v := vI (ppE xs)) 83 rfl (Nat.le_of_ble_eq_true rfl) rfl rfl (by kernel_rfl) ?_
            refine WL.pure (v := vI (ppV xs (f i).f)) 14 rfl (Nat.le_of_ble_eq_true rfl) rfl rfl (by kernel_rfl) ?_
            refine WL.pure (v := vI (ppE xs)) 15 rfl (Nat.le_of_ble_eq_true rfl) rfl rfl (by kernel_rfl) ?_
            refine WL.nil ?_
            refine WQ.then ?_
            refine hK92 _ _ _ ?_
            refine WC.sub (l' := [(1, .slice (some ⟨bb, oo, none⟩) n cap), (5, vP l 0), (7, vP r 0), (8, vI 0), (9, vI (i : Int)), (10, vP b69 0), (11, .bool true), (12, vI (ppV xs (f i).f)), (13, vI (ppE xs)), (14, vI (ppV xs (f i).f)), (15, vI (ppE xs)), (44, .bool true), (52, vI ((f i).d)), (53, .bool false), (68, .bool true)]) ⟨rfl, rfl, rfl, rfl, rfl, rfl, rfl, rfl, rfl, rfl, rfl, rfl, rfl, rfl, rfl, trivial⟩ ?_
            refine WC.region ?_
            refine WL.pure (v := vI (ppV xs (f i).f)) 84 rfl (Nat.le_of_ble_eq_true rfl) rfl rfl (by kernel_rfl) ?_
            refine WL.pure (v := vI (ppV xs (f i).f)) 85 rfl (Nat.le_of_ble_eq_true rfl) rfl rfl (by kernel_rfl) ?_
            refine WL.pure (v := .bool true) 86 rfl (Nat.le_of_ble_eq_true rfl) rfl rfl (x_eql rfl rfl rfl (dT (rfl))) ?_
            refine WL.pure (v := .bool true) 87 rfl (Nat.le_of_ble_eq_true rfl) rfl rfl (by kernel_rfl) ?_
            refine WL.pure (v := vI (ppE xs)) 88 rfl (Nat.le_of_ble_eq_true rfl) rfl rfl (by kernel_rfl) ?_
            refine WL.pure (v := vI (ppE xs)) 89 rfl (Nat.le_of_ble_eq_true rfl) rfl rfl (by kernel_rfl) ?_
            refine WL.pure (v := .bool true) 90 rfl (Nat.le_of_ble_eq_true rfl) rfl rfl (x_eql rfl rfl rfl (dT (rfl))) ?_
            refine WL.pure (v := .bool true) 91 rfl (Nat.le_of_ble_eq_true rfl) rfl rfl (by kernel_rfl) ?_
            refine WL.pure (v := .bool true) 11 rfl (Nat.le_of_ble_eq_true rfl) rfl rfl (by kernel_rfl) ?_
            refine WL.nil ?_
            refine WQ.inNormal ?_
            refine WQ.then ?_
            refine hK75 _ _ _ ?_
            refine WC.sub (l' := [(1, .slice (some ⟨bb, oo, none⟩) n cap), (5, vP l 0), (7, vP r 0), (8, vI 0), (9, vI (i : Int)), (10, vP b69 0), (11, .bool true), (12, vI (ppV xs (f i).f)), (13, vI (ppE xs)), (14, vI (ppV xs (f i).f)), (15, vI (ppE xs)), (44, .bool true), (52, vI ((f i).d)), (53, .bool false), (68, .bool true)]) ⟨rfl, rfl, rfl, rfl, rfl, rfl, rfl, rfl, rfl, rfl, rfl, rfl, rfl, rfl, rfl, trivial⟩ ?_
            refine WC.seq fun K94 hK94 => ?_
            refine WC.region ?_
            refine WL.pure (v := .bool true) 116 rfl (Nat.le_of_ble_eq_true rfl) rfl rfl (by kernel_rfl) ?_
            refine WL.pure (v := .bool false) 117 rfl (Nat.le_of_ble_eq_true rfl) rfl rfl (by kernel_rfl) ?_
            refine WL.pure (v := .bool false) 118 rfl (Nat.le_of_ble_eq_true rfl) rfl rfl (by kernel_rfl) ?_
            refine WL.pure (v := vP l 0) 119 rfl (Nat.le_of_ble_eq_true rfl) rfl rfl (by kernel_rfl) ?_
            have hlx : ((ppX xs (f i).f).length : Int) ≤ R := len_pp hx
            refine WL.call (f := 33) (args := #[vP l 0]) 120 rfl (Nat.le_of_ble_eq_true rfl) rfl rfl (by kernel_rfl) ?_
            refine (Items_any l R pv3 cp3 (ppX xs (f i).f) _ (HP.ownF (A := [.cel l #[vI R, .slice pv3 (ppX xs (f i).f).length cp3] 91, .own (.slice pv3 (ppX xs (f i).f).length cp3) (ppX xs (f i).f).length (iL (ppX xs (f i).f)) 3 1]) (B := [.cel r #[.slice qv3 (ppX xs (f i).f).length cq3, vI R] 93, .own (.slice qv3 (ppX xs (f i).f).length cq3) (ppX xs (f i).f).length (iL (ppX xs (f i).f)) 3 1, .cel b69 #[vI ((f i).d), vI ((f i).a), vI ((f i).v), .bool ((f i).f), .string ((f i).s)] 30]) hH93) hR1 (by omega)).mono ?_
            rintro e w95 ⟨ia, ca, rfl, hb96⟩
            refine ⟨_, rfl, ?_⟩
            have hH97 : HP Tr w _ [.cel l #[vI R, .slice pv3 (ppX xs (f i).f).length cp3] 91, .own (.slice pv3 (ppX xs (f i).f).length cp3) (ppX xs (f i).f).length (iL (ppX xs (f i).f)) 3 1, .cel r #[.slice qv3 (ppX xs (f i).f).length cq3, vI R] 93, .own (.slice qv3 (ppX xs (f i).f).length cq3) (ppX xs (f i).f).length (iL (ppX xs (f i).f)) 3 1, .cel b69 #[vI ((f i).d), vI ((f i).a), vI ((f i).v), .bool ((f i).f), .string ((f i).s)] 30, .own (.slice ia (ppX xs (f i).f).length ca) (ppX xs (f i).f).length (iL (ppX xs (f i).f)) 3 1] := HP.trans hH93 hb96
            refine WL.pure (v := vP r 0) 121 rfl (Nat.le_of_ble_eq_true rfl) rfl rfl (by kernel_rfl) ?_
            refine WL.call (f := 34) (args := #[vP r 0]) 122 rfl (Nat.le_of_ble_eq_true rfl) rfl rfl (by kernel_rfl) ?_
            refine (rItems_any r R qv3 cq3 (ppX xs (f i).f) _ (HP.ownM (A := [.cel l #[vI R, .slice pv3 (ppX xs (f i).f).length cp3] 91, .own (.slice pv3 (ppX xs (f i).f).length cp3) (ppX xs (f i).f).length (iL (ppX xs (f i).f)) 3 1]) (R := [.cel r #[.slice qv3 (ppX xs (f i).f).length cq3, vI R] 93, .own (.slice qv3 (ppX xs (f i).f).length cq3) (ppX xs (f i).f).length (iL (ppX xs (f i).f)) 3 1]) (C := [.cel b69 #[vI ((f i).d), vI ((f i).a), vI ((f i).v), .bool ((f i).f), .string ((f i).s)] 30, .own (.slice ia (ppX xs (f i).f).length ca) (ppX xs (f i).f).length (iL (ppX xs (f i).f)) 3 1]) hH97) hR1 (by omega)).mono ?_
            rintro e w98 ⟨ib, cb, rfl, hb99⟩
            refine ⟨_, rfl, ?_⟩
            have hH100 : HP Tr w _ [.cel l #[vI R, .slice pv3 (ppX xs (f i).f).length cp3] 91, .own (.slice pv3 (ppX xs (f i).f).length cp3) (ppX xs (f i).f).length (iL (ppX xs (f i).f)) 3 1, .cel r #[.slice qv3 (ppX xs (f i).f).length cq3, vI R] 93, .own (.slice qv3 (ppX xs (f i).f).length cq3) (ppX xs (f i).f).length (iL (ppX xs (f i).f)) 3 1, .cel b69 #[vI ((f i).d), vI ((f i).a), vI ((f i).v), .bool ((f i).f), .string ((f i).s)] 30, .own (.slice ia (ppX xs (f i).f).length ca) (ppX xs (f i).f).length (iL (ppX xs (f i).f)) 3 1, .own (.slice ib (ppX xs (f i).f).length cb) (ppX xs (f i).f).length (iL (ppX xs (f i).f)) 3 1] := HP.trans hH97 hb99
            refine WL.call (f := 32) (args := #[.slice ia ((ppX xs (f i).f).length) ca, .slice ib ((ppX xs (f i).f).length) cb]) 123 rfl (Nat.le_of_ble_eq_true rfl) rfl rfl (by kernel_rfl) ?_
            refine (Ints_any _ _ _ _ (ppX xs (f i).f) _ (HP.get hH100 5 rfl) (HP.get hH100 6 rfl) (by omega)).mono ?_
            rintro e w101 ⟨rfl, hb102⟩
            refine ⟨_, rfl, ?_⟩
            have hH103 : HP Tr w _ [.cel l #[vI R, .slice pv3 (ppX xs (f i).f).length cp3] 91, .own (.slice pv3 (ppX xs (f i).f).length cp3) (ppX xs (f i).f).length (iL (ppX xs (f i).f)) 3 1, .cel r #[.slice qv3 (ppX xs (f i).f).length cq3, vI R] 93, .own (.slice qv3 (ppX xs (f i).f).length cq3) (ppX xs (f i).f).length (iL (ppX xs (f i).f)) 3 1, .cel b69 #[vI ((f i).d), vI ((f i).a), vI ((f i).v), .bool ((f i).f), .string ((f i).s)] 30, .own (.slice ia (ppX xs (f i).f).length ca) (ppX xs (f i).f).length (iL (ppX xs (f i).f)) 3 1, .own (.slice ib (ppX xs (f i).f).length cb) (ppX xs (f i).f).length (iL (ppX xs (f i).f)) 3 1] := HP.call hH100 hb102
            refine WL.pure (v := .bool false) 124 rfl (Nat.le_of_ble_eq_true rfl) rfl rfl (by kernel_rfl) ?_
            refine WL.pure (v := .bool false) 125 rfl (Nat.le_of_ble_eq_true rfl) rfl rfl (by kernel_rfl) ?_
            refine WL.nil ?_
            refine WQ.then ?_
            refine hK94 _ _ _ ?_
            refine WC.sub (l' := [(1, .slice (some ⟨bb, oo, none⟩) n cap), (5, vP l 0), (7, vP r 0), (8, vI 0), (9, vI (i : Int)), (10, vP b69 0), (11, .bool true), (12, vI (ppV xs (f i).f)), (13, vI (ppE xs)), (14, vI (ppV xs (f i).f)), (15, vI (ppE xs)), (44, .bool true), (52, vI ((f i).d)), (53, .bool false), (68, .bool true), (125, .bool false)]) ⟨rfl, rfl, rfl, rfl, rfl, rfl, rfl, rfl, rfl, rfl, rfl, rfl, rfl, rfl, rfl, rfl, trivial⟩ ?_
            refine WC.no rfl ?_
            refine WC.skip ?_
            refine WQ.inNormal ?_
            refine WQ.then ?_
            refine hK67 _ _ _ ?_
            refine WC.region ?_
            refine WL.pure (v := vI (i : Int)) 45 rfl (Nat.le_of_ble_eq_true rfl) rfl rfl (by kernel_rfl) ?_
            refine WL.pure (v := vI ((i + 1 : Nat) : Int)) 46 rfl (Nat.le_of_ble_eq_true rfl) rfl rfl (x_add (Z := ((i + 1 : Nat) : Int)) rfl rfl rfl (by omega) (by omega) (by omega)) ?_
            refine WL.pure (v := vI ((i + 1 : Nat) : Int)) 9 rfl (Nat.le_of_ble_eq_true rfl) rfl rfl (by kernel_rfl) ?_
            refine WL.nil ?_
            refine WQ.sub (l' := [(1, .slice (some ⟨bb, oo, none⟩) n cap), (5, vP l 0), (7, vP r 0), (8, vI 0), (9, vI ((i + 1 : Nat) : Int))]) ⟨rfl, rfl, rfl, rfl, rfl, trivial⟩ ?_
            refine WQ.then (hK62 _ _ _ (by omega) ⟨i + 1, ppX xs (f i).f, pv3, cp3, qv3, cq3, rfl, rfl, by omega, len_pp hx, (HP.drop (HP.drop (HP.drop hH103 6) 5) 4)⟩)
          ·
            refine WL.pure (v := .bool false) 69 rfl (Nat.le_of_ble_eq_true rfl) rfl rfl (x_eql rfl rfl rfl (dF (h2))) ?_
            refine WL.pure (v := .bool false) 68 rfl (Nat.le_of_ble_eq_true rfl) rfl rfl (by kernel_rfl) ?_
            refine WL.nil ?_
            refine WQ.then ?_
            refine hK89 _ _ _ ?_
            refine WC.no rfl ?_
            refine WC.seq fun K104 hK104 => ?_
            refine WC.region ?_
            by_cases h3 : (f i).d = 3
            ·
              refine WL.pure (v := .bool true) 93 rfl (Nat.le_of_ble_eq_true rfl) rfl rfl (x_eql rfl rfl rfl (dT (h3))) ?_
              refine WL.pure (v := .bool true) 92 rfl (Nat.le_of_ble_eq_true rfl) rfl rfl (by kernel_rfl) ?_
              refine WL.nil ?_
              refine WQ.then ?_
              refine hK104 _ _ _ ?_
              refine WC.yes rfl ?_
              refine WC.seq fun K105 hK105 => ?_
              refine WC.region ?_
              refine WL.pure (v := vP l 0) 95 rfl (Nat.le_of_ble_eq_true rfl) rfl rfl (by kernel_rfl) ?_
              refine WL.pure (v := vP b69 1) 96 rfl (Nat.le_of_ble_eq_true rfl) rfl rfl (by kernel_rfl) ?_
              refine WL.pure (v := vI ((f i).a)) 97 rfl (Nat.le_of_ble_eq_true rfl) rfl rfl (x_load rfl rfl Try.underlying3 rfl (HP.cell hH73 4 rfl rfl)) ?_
              refine WL.call (f := 30) (args := #[vP l 0, vI ((f i).a)]) 98 rfl (Nat.le_of_ble_eq_true rfl) rfl rfl (by kernel_rfl) ?_
              refine (At_any l R pv cp xs (f i).a _ (HP.ownF (A := [.cel l #[vI R, .slice pv xs.length cp] 91, .own (.slice pv xs.length cp) xs.length (iL xs) 3 1]) (B := [.cel r #[.slice qv xs.length cq, vI R] 93, .own (.slice qv xs.length cq) xs.length (iL xs) 3 1, .cel b69 #[vI ((f i).d), vI ((f i).a), vI ((f i).v), .bool ((f i).f), .string ((f i).s)] 30]) hH73) hR1 (by omega)).mono ?_
              rintro e w106 ⟨rfl, hb107⟩
              refine ⟨_, rfl, ?_⟩
              have hH108 : HP Tr w _ [.cel l #[vI R, .slice pv xs.length cp] 91, .own (.slice pv xs.length cp) xs.length (iL xs) 3 1, .cel r #[.slice qv xs.length cq, vI R] 93, .own (.slice qv xs.length cq) xs.length (iL xs) 3 1, .cel b69 #[vI ((f i).d), vI ((f i).a), vI ((f i).v), .bool ((f i).f), .string ((f i).s)] 30] := HP.call hH73 hb107
              refine WL.pure (v := .tuple #[vI (atV xs (f i).a), vI (atE xs (f i).a)]) 94 rfl (Nat.le_of_ble_eq_true rfl) rfl rfl (by kernel_rfl) ?_
              refine WL.pure (v := vI (atV xs (f i).a)) 99 rfl (Nat.le_of_ble_eq_true rfl) rfl rfl (by kernel_rfl) ?_
              refine WL.pure (v := vI (atE xs (f i).a)) 100 rfl (Nat.le_of_ble_eq_true rfl) rfl rfl (by kernel_rfl) ?_
              refine WL.pure (v := vI (atV xs (f i).a)) 16 rfl (Nat.le_of_ble_eq_true rfl) rfl rfl (by kernel_rfl) ?_
              refine WL.pure (v := vI (atE xs (f i).a)) 17 rfl (Nat.le_of_ble_eq_true rfl) rfl rfl (by kernel_rfl) ?_
              refine WL.nil ?_
              refine WQ.then ?_
              refine hK105 _ _ _ ?_
              refine WC.sub (l' := [(1, .slice (some ⟨bb, oo, none⟩) n cap), (5, vP l 0), (7, vP r 0), (8, vI 0), (9, vI (i : Int)), (10, vP b69 0), (11, .bool true), (16, vI (atV xs (f i).a)), (17, vI (atE xs (f i).a)), (44, .bool true), (52, vI ((f i).d)), (53, .bool false), (68, .bool false), (92, .bool true)]) ⟨rfl, rfl, rfl, rfl, rfl, rfl, rfl, rfl, rfl, rfl, rfl, rfl, rfl, rfl, trivial⟩ ?_
              refine WC.seq fun K109 hK109 => ?_
              refine WC.region ?_
              refine WL.pure (v := vP r 0) 102 rfl (Nat.le_of_ble_eq_true rfl) rfl rfl (by kernel_rfl) ?_
              refine WL.pure (v := vP b69 1) 103 rfl (Nat.le_of_ble_eq_true rfl) rfl rfl (by kernel_rfl) ?_
              refine WL.pure (v := vI ((f i).a)) 104 rfl (Nat.le_of_ble_eq_true rfl) rfl rfl (x_load rfl rfl Try.underlying3 rfl (HP.cell hH108 4 rfl rfl)) ?_
              refine WL.call (f := 31) (args := #[vP r 0, vI ((f i).a)]) 105 rfl (Nat.le_of_ble_eq_true rfl) rfl rfl (by kernel_rfl) ?_
              refine (rAt_any r R qv cq xs (f i).a _ (HP.ownM (A := [.cel l #[vI R, .slice pv xs.length cp] 91, .own (.slice pv xs.length cp) xs.length (iL xs) 3 1]) (R := [.cel r #[.slice qv xs.length cq, vI R] 93, .own (.slice qv xs.length cq) xs.length (iL xs) 3 1]) (C := [.cel b69 #[vI ((f i).d), vI ((f i).a), vI ((f i).v), .bool ((f i).f), .string ((f i).s)] 30]) hH108) hR1 (by omega)).mono ?_
              rintro e w110 ⟨rfl, hb111⟩
              refine ⟨_, rfl, ?_⟩
              have hH112 : HP Tr w _ [.cel l #[vI R, .slice pv xs.length cp] 91, .own (.slice pv xs.length cp) xs.length (iL xs) 3 1, .cel r #[.slice qv xs.length cq, vI R] 93, .own (.slice qv xs.length cq) xs.length (iL xs) 3 1, .cel b69 #[vI ((f i).d), vI ((f i).a), vI ((f i).v), .bool ((f i).f), .string ((f i).s)] 30] := HP.call hH108 hb111
              refine WL.pure (v := .tuple #[vI (atV xs (f i).a), vI (atE xs (f i).a)]) 101 rfl (Nat.le_of_ble_eq_true rfl) rfl rfl (by kernel_rfl) ?_
              refine WL.pure (v := vI (atV xs (f i).a)) 106 rfl (Nat.le_of_ble_eq_true rfl) rfl rfl (by kernel_rfl) ?_
              refine WL.pure (v := vI (atE xs (f i).a)) 107 rfl (Nat.le_of_ble_eq_true rfl) rfl rfl (by kernel_rfl) ?_
              refine WL.pure (v := vI (atV xs (f i).a)) 18 rfl (Nat.le_of_ble_eq_true rfl) rfl rfl (by kernel_rfl) ?_
              refine WL.pure (v := vI (atE xs (f i).a)) 19 rfl (Nat.le_of_ble_eq_true rfl) rfl rfl (by kernel_rfl) ?_
              refine WL.nil ?_
              refine WQ.then ?_
              refine hK109 _ _ _ ?_
              refine WC.sub (l' := [(1, .slice (some ⟨bb, oo, none⟩) n cap), (5, vP l 0), (7, vP r 0), (8, vI 0), (9, vI (i : Int)), (10, vP b69 0), (11, .bool true), (16, vI (atV xs (f i).a)), (17, vI (atE xs (f i).a)), (18, vI (atV xs (f i).a)), (19, vI (atE xs (f i).a)), (44, .bool true), (52, vI ((f i).d)), (53, .bool false), (68, .bool false), (92, .bool true)]) ⟨rfl, rfl, rfl, rfl, rfl, rfl, rfl, rfl, rfl, rfl, rfl, rfl, rfl, rfl, rfl, rfl, trivial⟩ ?_
              refine WC.region ?_
              refine WL.pure (v := vI (atV xs (f i).a)) 108 rfl (Nat.le_of_ble_eq_true rfl) rfl rfl (by kernel_rfl) ?_
              refine WL.pure (v := vI (atV xs (f i).a)) 109 rfl (Nat.le_of_ble_eq_true rfl) rfl rfl (by kernel_rfl) ?_
              refine WL.pure (v := .bool true) 110 rfl (Nat.le_of_ble_eq_true rfl) rfl rfl (x_eql rfl rfl rfl (dT (rfl))) ?_
              refine WL.pure (v := .bool true) 111 rfl (Nat.le_of_ble_eq_true rfl) rfl rfl (by kernel_rfl) ?_
              refine WL.pure (v := vI (atE xs (f i).a)) 112 rfl (Nat.le_of_ble_eq_true rfl) rfl rfl (by kernel_rfl) ?_
              refine WL.pure (v := vI (atE xs (f i).a)) 113 rfl (Nat.le_of_ble_eq_true rfl) rfl rfl (by kernel_rfl) ?_
              refine WL.pure (v := .bool true) 114 rfl (Nat.le_of_ble_eq_true rfl) rfl rfl (x_eql rfl rfl rfl (dT (rfl))) ?_
              refine WL.pure (v := .bool true) 115 rfl (Nat.le_of_ble_eq_true rfl) rfl rfl (by kernel_rfl) ?_
              refine WL.pure (v := .bool true) 11 rfl (Nat.le_of_ble_eq_true rfl) rfl rfl (by kernel_rfl) ?_
              refine WL.nil ?_
              refine WQ.inNormal ?_
              refine WQ.then ?_
              refine hK75 _ _ _ ?_
              refine WC.sub (l' := [(1, .slice (some ⟨bb, oo, none⟩) n cap), (5, vP l 0), (7, vP r 0), (8, vI 0), (9, vI (i : Int)), (10, vP b69 0), (11, .bool true), (16, vI (atV xs (f i).a)), (17, vI (atE xs (f i).a)), (18, vI (atV xs (f i).a)), (19, vI (atE xs (f i).a)), (44, .bool true), (52, vI ((f i).d)), (53, .bool false), (68, .bool false), (92, .bool true)]) ⟨rfl, rfl, rfl, rfl, rfl, rfl, rfl, rfl, rfl, rfl, rfl, rfl, rfl, rfl, rfl, rfl, trivial⟩ ?_
              refine WC.seq fun K113 hK113 => ?_
              refine WC.region ?_
              refine WL.pure (v := .bool true) 116 rfl (Nat.le_of_ble_eq_true rfl) rfl rfl (by kernel_rfl) ?_
              refine WL.pure (v := .bool false) 117 rfl (Nat.le_of_ble_eq_true rfl) rfl rfl (by kernel_rfl) ?_
              refine WL.pure (v := .bool false) 118 rfl (Nat.le_of_ble_eq_true rfl) rfl rfl (by kernel_rfl) ?_
              refine WL.pure (v := vP l 0) 119 rfl (Nat.le_of_ble_eq_true rfl) rfl rfl (by kernel_rfl) ?_
              have hlx : (xs.length : Int) ≤ R := hx
              refine WL.call (f := 33) (args := #[vP l 0]) 120 rfl (Nat.le_of_ble_eq_true rfl) rfl rfl (by kernel_rfl) ?_
              refine (Items_any l R pv cp xs _ (HP.ownF (A := [.cel l #[vI R, .slice pv xs.length cp] 91, .own (.slice pv xs.length cp) xs.length (iL xs) 3 1]) (B := [.cel r #[.slice qv xs.length cq, vI R] 93, .own (.slice qv xs.length cq) xs.length (iL xs) 3 1, .cel b69 #[vI ((f i).d), vI ((f i).a), vI ((f i).v), .bool ((f i).f), .string ((f i).s)] 30]) hH112) hR1 (by omega)).mono ?_
              rintro e w114 ⟨ia, ca, rfl, hb115⟩
              refine ⟨_, rfl, ?_⟩
              have hH116 : HP Tr w _ [.cel l #[vI R, .slice pv xs.length cp] 91, .own (.slice pv xs.length cp) xs.length (iL xs) 3 1, .cel r #[.slice qv xs.length cq, vI R] 93, .own (.slice qv xs.length cq) xs.length (iL xs) 3 1, .cel b69 #[vI ((f i).d), vI ((f i).a), vI ((f i).v), .bool ((f i).f), .string ((f i).s)] 30, .own (.slice ia xs.length ca) xs.length (iL xs) 3 1] := HP.trans hH112 hb115
              refine WL.pure (v := vP r 0) 121 rfl (Nat.le_of_ble_eq_true rfl) rfl rfl (by kernel_rfl) ?_
              refine WL.call (f := 34) (args := #[vP r 0]) 122 rfl (Nat.le_of_ble_eq_true rfl) rfl rfl (by kernel_rfl) ?_
              refine (rItems_any r R qv cq xs _ (HP.ownM (A := [.cel l #[vI R, .slice pv xs.length cp] 91, .own (.slice pv xs.length cp) xs.length (iL xs) 3 1]) (R := [.cel r #[.slice qv xs.length cq, vI R] 93, .own (.slice qv xs.length cq) xs.length (iL xs) 3 1]) (C := [.cel b69 #[vI ((f i).d), vI ((f i).a), vI ((f i).v), .bool ((f i).f), .string ((f i).s)] 30, .own (.slice ia xs.length ca) xs.length (iL xs) 3 1]) hH116) hR1 (by omega)).mono ?_
              rintro e w117 ⟨ib, cb, rfl, hb118⟩
              refine ⟨_, rfl, ?_⟩
              have hH119 : HP Tr w _ [.cel l #[vI R, .slice pv xs.length cp] 91, .own (.slice pv xs.length cp) xs.length (iL xs) 3 1, .cel r #[.slice qv xs.length cq, vI R] 93, .own (.slice qv xs.length cq) xs.length (iL xs) 3 1, .cel b69 #[vI ((f i).d), vI ((f i).a), vI ((f i).v), .bool ((f i).f), .string ((f i).s)] 30, .own (.slice ia xs.length ca) xs.length (iL xs) 3 1, .own (.slice ib xs.length cb) xs.length (iL xs) 3 1] := HP.trans hH116 hb118
              refine WL.call (f := 32) (args := #[.slice ia xs.length ca, .slice ib xs.length cb]) 123 rfl (Nat.le_of_ble_eq_true rfl) rfl rfl (by kernel_rfl) ?_
              refine (Ints_any _ _ _ _ xs _ (HP.get hH119 5 rfl) (HP.get hH119 6 rfl) (by omega)).mono ?_
              rintro e w120 ⟨rfl, hb121⟩
              refine ⟨_, rfl, ?_⟩
              have hH122 : HP Tr w _ [.cel l #[vI R, .slice pv xs.length cp] 91, .own (.slice pv xs.length cp) xs.length (iL xs) 3 1, .cel r #[.slice qv xs.length cq, vI R] 93, .own (.slice qv xs.length cq) xs.length (iL xs) 3 1, .cel b69 #[vI ((f i).d), vI ((f i).a), vI ((f i).v), .bool ((f i).f), .string ((f i).s)] 30, .own (.slice ia xs.length ca) xs.length (iL xs) 3 1, .own (.slice ib xs.length cb) xs.length (iL xs) 3 1] := HP.call hH119 hb121
              refine WL.pure (v := .bool false) 124 rfl (Nat.le_of_ble_eq_true rfl) rfl rfl (by kernel_rfl) ?_
              refine WL.pure (v := .bool false) 125 rfl (Nat.le_of_ble_eq_true rfl) rfl rfl (by kernel_rfl) ?_
              refine WL.nil ?_
              refine WQ.then ?_
              refine hK113 _ _ _ ?_
              refine WC.sub (l' := [(1, .slice (some ⟨bb, oo, none⟩) n cap), (5, vP l 0), (7, vP r 0), (8, vI 0), (9, vI (i : Int)), (10, vP b69 0), (11, .bool true), (16, vI (atV xs (f i).a)), (17, vI (atE xs (f i).a)), (18, vI (atV xs (f i).a)), (19, vI (atE xs (f i).a)), (44, .bool true), (52, vI ((f i).d)), (53, .bool false), (68, .bool false), (92, .bool true), (125, .bool false)]) ⟨rfl, rfl, rfl, rfl, rfl, rfl, rfl, rfl, rfl, rfl, rfl, rfl, rfl, rfl, rfl, rfl, rfl, trivial⟩ ?_
              refine WC.no rfl ?_
              refine WC.skip ?_
              refine WQ.inNormal ?_
              refine WQ.then ?_
              refine hK67 _ _ _ ?_
              refine WC.region ?_
              refine WL.pure (v := vI (i : Int)) 45 rfl (Nat.le_of_ble_eq_true rfl) rfl rfl (by kernel_rfl) ?_
              refine WL.pure (v := vI ((i + 1 : Nat) : Int)) 46 rfl (Nat.le_of_ble_eq_true rfl) rfl rfl (x_add (Z := ((i + 1 : Nat) : Int)) rfl rfl rfl (by omega) (by omega) (by omega)) ?_
              refine WL.pure (v := vI ((i + 1 : Nat) : Int)) 9 rfl (Nat.le_of_ble_eq_true rfl) rfl rfl (by kernel_rfl) ?_
              refine WL.nil ?_
              refine WQ.sub (l' := [(1, .slice (some ⟨bb, oo, none⟩) n cap), (5, vP l 0), (7, vP r 0), (8, vI 0), (9, vI ((i + 1 : Nat) : Int))]) ⟨rfl, rfl, rfl, rfl, rfl, trivial⟩ ?_
              refine WQ.then (hK62 _ _ _ (by omega) ⟨i + 1, xs, pv, cp, qv, cq, rfl, rfl, by omega, hx, (HP.drop (HP.drop (HP.drop hH122 6) 5) 4)⟩)
            ·
              refine WL.pure (v := .bool false) 93 rfl (Nat.le_of_ble_eq_true rfl) rfl rfl (x_eql rfl rfl rfl (dF (h3))) ?_
              refine WL.pure (v := .bool false) 92 rfl (Nat.le_of_ble_eq_true rfl) rfl rfl (by kernel_rfl) ?_
              refine WL.nil ?_
              refine WQ.then ?_
              refine hK104 _ _ _ ?_
              refine WC.no rfl ?_
              refine WC.skip ?_
              refine WQ.inNormal ?_
              refine WQ.then ?_
              refine hK75 _ _ _ ?_
              refine WC.seq fun K123 hK123 => ?_
              refine WC.region ?_
              refine WL.pure (v := .bool true) 116 rfl (Nat.le_of_ble_eq_true rfl) rfl rfl (by kernel_rfl) ?_
              refine WL.pure (v := .bool false) 117 rfl (Nat.le_of_ble_eq_true rfl) rfl rfl (by kernel_rfl) ?_
              refine WL.pure (v := .bool false) 118 rfl (Nat.le_of_ble_eq_true rfl) rfl rfl (by kernel_rfl) ?_
              refine WL.pure (v := vP l 0) 119 rfl (Nat.le_of_ble_eq_true rfl) rfl rfl (by kernel_rfl) ?_
              have hlx : (xs.length : Int) ≤ R := hx
              refine WL.call (f := 33) (args := #[vP l 0]) 120 rfl (Nat.le_of_ble_eq_true rfl) rfl rfl (by kernel_rfl) ?_
              refine (Items_any l R pv cp xs _ (HP.ownF (A := [.cel l #[vI R, .slice pv xs.length cp] 91, .own (.slice pv xs.length cp) xs.length (iL xs) 3 1]) (B := [.cel r #[.slice qv xs.length cq, vI R] 93, .own (.slice qv xs.length cq) xs.length (iL xs) 3 1, .cel b69 #[vI ((f i).d), vI ((f i).a), vI ((f i).v), .bool ((f i).f), .string ((f i).s)] 30]) hH73) hR1 (by omega)).mono ?_
              rintro e w124 ⟨ia, ca, rfl, hb125⟩
              refine ⟨_, rfl, ?_⟩
              have hH126 : HP Tr w _ [.cel l #[vI R, .slice pv xs.length cp] 91, .own (.slice pv xs.length cp) xs.length (iL xs) 3 1, .cel r #[.slice qv xs.length cq, vI R] 93, .own (.slice qv xs.length cq) xs.length (iL xs) 3 1, .cel b69 #[vI ((f i).d), vI ((f i).a), vI ((f i).v), .bool ((f i).f), .string ((f i).s)] 30, .own (.slice ia xs.length ca) xs.length (iL xs) 3 1] := HP.trans hH73 hb125
              refine WL.pure (v := vP r 0) 121 rfl (Nat.le_of_ble_eq_true rfl) rfl rfl (by kernel_rfl) ?_
              refine WL.call (f := 34) (args := #[vP r 0]) 122 rfl (Nat.le_of_ble_eq_true rfl) rfl rfl (by kernel_rfl) ?_
              refine (rItems_any r R qv cq xs _ (HP.ownM (A := [.cel l #[vI R, .slice pv xs.length cp] 91, .own (.slice pv xs.length cp) xs.length (iL xs) 3 1]) (R := [.cel r #[.slice qv xs.length cq, vI R] 93, .own (.slice qv xs.length cq) xs.length (iL xs) 3 1]) (C := [.cel b69 #[vI ((f i).d), vI ((f i).a), vI ((f i).v), .bool ((f i).f), .string ((f i).s)] 30, .own (.slice ia xs.length ca) xs.length (iL xs) 3 1]) hH126) hR1 (by omega)).mono ?_
              rintro e w127 ⟨ib, cb, rfl, hb128⟩
              refine ⟨_, rfl, ?_⟩
              have hH129 : HP Tr w _ [.cel l #[vI R, .slice pv xs.length cp] 91, .own (.slice pv xs.length cp) xs.length (iL xs) 3 1, .cel r #[.slice qv xs.length cq, vI R] 93, .own (.slice qv xs.length cq) xs.length (iL xs) 3 1, .cel b69 #[vI ((f i).d), vI ((f i).a), vI ((f i).v), .bool ((f i).f), .string ((f i).s)] 30, .own (.slice ia xs.length ca) xs.length (iL xs) 3 1, .own (.slice ib xs.length cb) xs.length (iL xs) 3 1] := HP.trans hH126 hb128
              refine WL.call (f := 32) (args := #[.slice ia xs.length ca, .slice ib xs.length cb]) 123 rfl (Nat.le_of_ble_eq_true rfl) rfl rfl (by kernel_rfl) ?_
              refine (Ints_any _ _ _ _ xs _ (HP.get hH129 5 rfl) (HP.get hH129 6 rfl) (by omega)).mono ?_
              rintro e w130 ⟨rfl, hb131⟩
              refine ⟨_, rfl, ?_⟩
              have hH132 : HP Tr w _ [.cel l #[vI R, .slice pv xs.length cp] 91, .own (.slice pv xs.length cp) xs.length (iL xs) 3 1, .cel r #[.slice qv xs.length cq, vI R] 93, .own (.slice qv xs.length cq) xs.length (iL xs) 3 1, .cel b69 #[vI ((f i).d), vI ((f i).a), vI ((f i).v), .bool ((f i).f), .string ((f i).s)] 30, .own (.slice ia xs.length ca) xs.length (iL xs) 3 1, .own (.slice ib xs.length cb) xs.length (iL xs) 3 1] := HP.call hH129 hb131
              refine WL.pure (v := .bool false) 124 rfl (Nat.le_of_ble_eq_true rfl) rfl rfl (by kernel_rfl) ?_
              refine WL.pure (v := .bool false) 125 rfl (Nat.le_of_ble_eq_true rfl) rfl rfl (by kernel_rfl) ?_
              refine WL.nil ?_
              refine WQ.then ?_
              refine hK123 _ _ _ ?_
              refine WC.sub (l' := [(1, .slice (some ⟨bb, oo, none⟩) n cap), (5, vP l 0), (7, vP r 0), (8, vI 0), (9, vI (i : Int)), (10, vP b69 0), (11, .bool true), (44, .bool true), (52, vI ((f i).d)), (53, .bool false), (68, .bool false), (92, .bool false), (125, .bool false)]) ⟨rfl, rfl, rfl, rfl, rfl, rfl, rfl, rfl, rfl, rfl, rfl, rfl, rfl, trivial⟩ ?_
              refine WC.no rfl ?_
              refine WC.skip ?_
              refine WQ.inNormal ?_
              refine WQ.then ?_
              refine hK67 _ _ _ ?_
              refine WC.region ?_
              refine WL.pure (v := vI (i : Int)) 45 rfl (Nat.le_of_ble_eq_true rfl) rfl rfl (by kernel_rfl) ?_
              refine WL.pure (v := vI ((i + 1 : Nat) : Int)) 46 rfl (Nat.le_of_ble_eq_true rfl) rfl rfl (x_add (Z := ((i + 1 : Nat) : Int)) rfl rfl rfl (by omega) (by omega) (by omega)) ?_
              refine WL.pure (v := vI ((i + 1 : Nat) : Int)) 9 rfl (Nat.le_of_ble_eq_true rfl) rfl rfl (by kernel_rfl) ?_
              refine WL.nil ?_
              refine WQ.sub (l' := [(1, .slice (some ⟨bb, oo, none⟩) n cap), (5, vP l 0), (7, vP r 0), (8, vI 0), (9, vI ((i + 1 : Nat) : Int))]) ⟨rfl, rfl, rfl, rfl, rfl, trivial⟩ ?_
              refine WQ.then (hK62 _ _ _ (by omega) ⟨i + 1, xs, pv, cp, qv, cq, rfl, rfl, by omega, hx, (HP.drop (HP.drop (HP.drop hH132 6) 5) 4)⟩)
      ·
        refine WL.pure (v := .bool false) 39 rfl (Nat.le_of_ble_eq_true rfl) rfl rfl (x_lss rfl rfl rfl (dF (h120))) ?_
        refine WL.pure (v := .bool false) 40 rfl (Nat.le_of_ble_eq_true rfl) rfl rfl (by kernel_rfl) ?_
        refine WL.pure (v := .bool false) 41 rfl (Nat.le_of_ble_eq_true rfl) rfl rfl (by kernel_rfl) ?_
        refine WL.pass 42 rfl (Nat.le_of_ble_eq_true rfl) rfl ?_
        refine WL.pass 43 rfl (Nat.le_of_ble_eq_true rfl) rfl ?_
        refine WL.pure (v := .bool false) 44 rfl (Nat.le_of_ble_eq_true rfl) rfl rfl (by kernel_rfl) ?_
        refine WL.nil ?_
        refine WQ.then ?_
        refine hK66 _ _ _ ?_
        refine WC.sub (l' := [(1, .slice p n cap), (5, vP l 0), (7, vP r 0), (8, vI 0), (9, vI (i : Int)), (44, .bool false)]) ⟨rfl, rfl, rfl, rfl, rfl, rfl, trivial⟩ ?_
        refine WC.no rfl ?_
        refine WC.exit ?_
        refine WQ.thenExit ?_
        refine WQ.thenExit ?_
        refine WQ.inExit ?_
        refine WQ.then ?_
        refine hK60 _ _ _ ?_
        refine WC.seq fun K133 hK133 => ?_
        refine WC.region ?_
        refine WL.pure (v := vP l 0) 126 rfl (Nat.le_of_ble_eq_true rfl) rfl rfl (by kernel_rfl) ?_
        have hlx : (xs.length : Int) ≤ R := hx
        refine WL.call (f := 33) (args := #[vP l 0]) 127 rfl (Nat.le_of_ble_eq_true rfl) rfl rfl (by kernel_rfl) ?_
        refine (Items_any l R pv cp xs _ (HP.ownF (A := [.cel l #[vI R, .slice pv xs.length cp] 91, .own (.slice pv xs.length cp) xs.length (iL xs) 3 1]) (B := [.cel r #[.slice qv xs.length cq, vI R] 93, .own (.slice qv xs.length cq) xs.length (iL xs) 3 1]) hH64) hR1 (by omega)).mono ?_
        rintro e w134 ⟨ia, ca, rfl, hb135⟩
        refine ⟨_, rfl, ?_⟩
        have hH136 : HP Tr w _ [.cel l #[vI R, .slice pv xs.length cp] 91, .own (.slice pv xs.length cp) xs.length (iL xs) 3 1, .cel r #[.slice qv xs.length cq, vI R] 93, .own (.slice qv xs.length cq) xs.length (iL xs) 3 1, .own (.slice ia xs.length ca) xs.length (iL xs) 3 1] := HP.trans hH64 hb135
        refine WL.pure (v := vP r 0) 128 rfl (Nat.le_of_ble_eq_true rfl) rfl rfl (by kernel_rfl) ?_
        refine WL.call (f := 34) (args := #[vP r 0]) 129 rfl (Nat.le_of_ble_eq_true rfl) rfl rfl (by kernel_rfl) ?_
        refine (rItems_any r R qv cq xs _ (HP.ownM (A := [.cel l #[vI R, .slice pv xs.length cp] 91, .own (.slice pv xs.length cp) xs.length (iL xs) 3 1]) (R := [.cel r #[.slice qv xs.length cq, vI R] 93, .own (.slice qv xs.length cq) xs.length (iL xs) 3 1]) (C := [.own (.slice ia xs.length ca) xs.length (iL xs) 3 1]) hH136) hR1 (by omega)).mono ?_
        rintro e w137 ⟨ib, cb, rfl, hb138⟩
        refine ⟨_, rfl, ?_⟩
        have hH139 : HP Tr w _ [.cel l #[vI R, .slice pv xs.length cp] 91, .own (.slice pv xs.length cp) xs.length (iL xs) 3 1, .cel r #[.slice qv xs.length cq, vI R] 93, .own (.slice qv xs.length cq) xs.length (iL xs) 3 1, .own (.slice ia xs.length ca) xs.length (iL xs) 3 1, .own (.slice ib xs.length cb) xs.length (iL xs) 3 1] := HP.trans hH136 hb138
        refine WL.call (f := 32) (args := #[.slice ia xs.length ca, .slice ib xs.length cb]) 130 rfl (Nat.le_of_ble_eq_true rfl) rfl rfl (by kernel_rfl) ?_
        refine (Ints_any _ _ _ _ xs _ (HP.get hH139 4 rfl) (HP.get hH139 5 rfl) (by omega)).mono ?_
        rintro e w140 ⟨rfl, hb141⟩
        refine ⟨_, rfl, ?_⟩
        have hH142 : HP Tr w _ [.cel l #[vI R, .slice pv xs.length cp] 91, .own (.slice pv xs.length cp) xs.length (iL xs) 3 1, .cel r #[.slice qv xs.length cq, vI R] 93, .own (.slice qv xs.length cq) xs.length (iL xs) 3 1, .own (.slice ia xs.length ca) xs.length (iL xs) 3 1, .own (.slice ib xs.length cb) xs.length (iL xs) 3 1] := HP.call hH139 hb141
        refine WL.pure (v := .bool true) 131 rfl (Nat.le_of_ble_eq_true rfl) rfl rfl (by kernel_rfl) ?_
        refine WL.call (f := 11) (args := #[]) 132 rfl (Nat.le_of_ble_eq_true rfl) rfl rfl (by kernel_rfl) ?_
        refine (sane_any _).mono ?_
        rintro e w143 ⟨rfl, hb144⟩
        refine ⟨_, rfl, ?_⟩
        have hH145 : HP Tr w _ [.cel l #[vI R, .slice pv xs.length cp] 91, .own (.slice pv xs.length cp) xs.length (iL xs) 3 1, .cel r #[.slice qv xs.length cq, vI R] 93, .own (.slice qv xs.length cq) xs.length (iL xs) 3 1, .own (.slice ia xs.length ca) xs.length (iL xs) 3 1, .own (.slice ib xs.length cb) xs.length (iL xs) 3 1] := HP.call hH142 hb144
        refine WL.pure (v := .bool true) 133 rfl (Nat.le_of_ble_eq_true rfl) rfl rfl (by kernel_rfl) ?_
        refine WL.pure (v := .bool true) 4 rfl (Nat.le_of_ble_eq_true rfl) rfl rfl (by kernel_rfl) ?_
        refine WL.nil ?_
        refine WQ.then ?_
        refine hK133 _ _ _ ?_
        refine WC.sub (l' := [(1, .slice p n cap), (4, .bool true), (5, vP l 0), (7, vP r 0), (8, vI 0), (9, vI (i : Int)), (44, .bool false)]) ⟨rfl, rfl, rfl, rfl, rfl, rfl, rfl, trivial⟩ ?_
        refine WC.ret ?_
        refine WQ.ret1 4 rfl rfl ?_
        exact ⟨rfl, HP.below hH145⟩
    ·
      refine WL.pure (v := .bool false) 36 rfl (Nat.le_of_ble_eq_true rfl) rfl rfl (x_lss rfl rfl rfl (dF (hlt))) ?_
      refine WL.pure (v := .bool false) 37 rfl (Nat.le_of_ble_eq_true rfl) rfl rfl (by kernel_rfl) ?_
      refine WL.pass 38 rfl (Nat.le_of_ble_eq_true rfl) rfl ?_
      refine WL.pass 39 rfl (Nat.le_of_ble_eq_true rfl) rfl ?_
      refine WL.pure (v := .bool false) 40 rfl (Nat.le_of_ble_eq_true rfl) rfl rfl (by kernel_rfl) ?_
      refine WL.pure (v := .bool false) 41 rfl (Nat.le_of_ble_eq_true rfl) rfl rfl (by kernel_rfl) ?_
      refine WL.pass 42 rfl (Nat.le_of_ble_eq_true rfl) rfl ?_
      refine WL.pass 43 rfl (Nat.le_of_ble_eq_true rfl) rfl ?_
      refine WL.pure (v := .bool false) 44 rfl (Nat.le_of_ble_eq_true rfl) rfl rfl (by kernel_rfl) ?_
      refine WL.nil ?_
      refine WQ.then ?_
      refine hK66 _ _ _ ?_
      refine WC.sub (l' := [(1, .slice p n cap), (5, vP l 0), (7, vP r 0), (8, vI 0), (9, vI (i : Int)), (44, .bool false)]) ⟨rfl, rfl, rfl, rfl, rfl, rfl, trivial⟩ ?_
      refine WC.no rfl ?_
      refine WC.exit ?_
      refine WQ.thenExit ?_
      refine WQ.thenExit ?_
      refine WQ.inExit ?_
      refine WQ.then ?_
      refine hK60 _ _ _ ?_
      refine WC.seq fun K146 hK146 => ?_
      refine WC.region ?_
      refine WL.pure (v := vP l 0) 126 rfl (Nat.le_of_ble_eq_true rfl) rfl rfl (by kernel_rfl) ?_
      have hlx : (xs.length : Int) ≤ R := hx
      refine WL.call (f := 33) (args := #[vP l 0]) 127 rfl (Nat.le_of_ble_eq_true rfl) rfl rfl (by kernel_rfl) ?_
      refine (Items_any l R pv cp xs _ (HP.ownF (A := [.cel l #[vI R, .slice pv xs.length cp] 91, .own (.slice pv xs.length cp) xs.length (iL xs) 3 1]) (B := [.cel r #[.slice qv xs.length cq, vI R] 93, .own (.slice qv xs.length cq) xs.length (iL xs) 3 1]) hH64) hR1 (by omega)).mono ?_
      rintro e w147 ⟨ia, ca, rfl, hb148⟩
      refine ⟨_, rfl, ?_⟩
      have hH149 : HP Tr w _ [.cel l #[vI R, .slice pv xs.length cp] 91, .own (.slice pv xs.length cp) xs.length (iL xs) 3 1, .cel r #[.slice qv xs.length cq, vI R] 93, .own (.slice qv xs.length cq) xs.length (iL xs) 3 1, .own (.slice ia xs.length ca) xs.length (iL xs) 3 1] := HP.trans hH64 hb148
      refine WL.pure (v := vP r 0) 128 rfl (Nat.le_of_ble_eq_true rfl) rfl rfl (by kernel_rfl) ?_
      refine WL.call (f := 34) (args := #[vP r 0]) 129 rfl (Nat.le_of_ble_eq_true rfl) rfl rfl (by kernel_rfl) ?_
      refine (rItems_any r R qv cq xs _ (HP.ownM (A := [.cel l #[vI R, .slice pv xs.length cp] 91, .own (.slice pv xs.length cp) xs.length (iL xs) 3 1]) (R := [.cel r #[.slice qv xs.length cq, vI R] 93, .own (.slice qv xs.length cq) xs.length (iL xs) 3 1]) (C := [.own (.slice ia xs.length ca) xs.length (iL xs) 3 1]) hH149) hR1 (by omega)).mono ?_
      rintro e w150 ⟨ib, cb, rfl, hb151⟩
      refine ⟨_, rfl, ?_⟩
      have hH152 : HP Tr w _ [.cel l #[vI R, .slice pv xs.length cp] 91, .own (.slice pv xs.length cp) xs.length (iL xs) 3 1, .cel r #[.slice qv xs.length cq, vI R] 93, .own (.slice qv xs.length cq) xs.length (iL xs) 3 1, .own (.slice ia xs.length ca) xs.length (iL xs) 3 1, .own (.slice ib xs.length cb) xs.length (iL xs) 3 1] := HP.trans hH149 hb151
      refine WL.call (f := 32) (args := #[.slice ia xs.length ca, .slice ib xs.length cb]) 130 rfl (Nat.le_of_ble_eq_true rfl) rfl rfl (by kernel_rfl) ?_
      refine (Ints_any _ _ _ _ xs _ (HP.get hH152 4 rfl) (HP.get hH152 5 rfl) (by omega)).mono ?_
      rintro e w153 ⟨rfl, hb154⟩
      refine ⟨_, rfl, ?_⟩
      have hH155 : HP Tr w _ [.cel l #[vI R, .slice pv xs.length cp] 91, .own (.slice pv xs.length cp) xs.length (iL xs) 3 1, .cel r #[.slice qv xs.length cq, vI R] 93, .own (.slice qv xs.length cq) xs.length (iL xs) 3 1, .own (.slice ia xs.length ca) xs.length (iL xs) 3 1, .own (.slice ib xs.length cb) xs.length (iL xs) 3 1] := HP.call hH152 hb154
      refine WL.pure (v := .bool true) 131 rfl (Nat.le_of_ble_eq_true rfl) rfl rfl (by kernel_rfl) ?_
      refine WL.call (f := 11) (args := #[]) 132 rfl (Nat.le_of_ble_eq_true rfl) rfl rfl (by kernel_rfl) ?_
      refine (sane_any _).mono ?_
      rintro e w156 ⟨rfl, hb157⟩
      refine ⟨_, rfl, ?_⟩
      have hH158 : HP Tr w _ [.cel l #[vI R, .slice pv xs.length cp] 91, .own (.slice pv xs.length cp) xs.length (iL xs) 3 1, .cel r #[.slice qv xs.length cq, vI R] 93, .own (.slice qv xs.length cq) xs.length (iL xs) 3 1, .own (.slice ia xs.length ca) xs.length (iL xs) 3 1, .own (.slice ib xs.length cb) xs.length (iL xs) 3 1] := HP.call hH155 hb157
      refine WL.pure (v := .bool true) 133 rfl (Nat.le_of_ble_eq_true rfl) rfl rfl (by kernel_rfl) ?_
      refine WL.pure (v := .bool true) 4 rfl (Nat.le_of_ble_eq_true rfl) rfl rfl (by kernel_rfl) ?_
      refine WL.nil ?_
      refine WQ.then ?_
      refine hK146 _ _ _ ?_
      refine WC.sub (l' := [(1, .slice p n cap), (4, .bool true), (5, vP l 0), (7, vP r 0), (8, vI 0), (9, vI (i : Int)), (44, .bool false)]) ⟨rfl, rfl, rfl, rfl, rfl, rfl, rfl, trivial⟩ ?_
      refine WC.ret ?_
      refine WQ.ret1 4 rfl rfl ?_
      exact ⟨rfl, HP.below hH158⟩

theorem own : ownKnob Try.prog.godebug = none := by kernel_rfl
theorem laidOut : laidOutB Try.prog = true := by kernel_rfl

set_option maxRecDepth 100000 in
theorem lifted (os : Os) (started : os.Started) (H : Type) (enc : TypeId × Value → H) :
    ReturnsInHanded {} Try.checked os 7 .any (Rows.libListsSpec.pre6 enc Try.prog Try.f7 Rows.libListsRow.domain false) (Rows.libListsSpec.post enc Try.prog Try.f7 false true false false) := by
  refine returnsInHanded_of_change (C := Try.checked) own started (by kernel_rfl) Try.func7
    (ChangeSpec.witness6 (enc := enc) (C := Try.checked) false ⟨#[], #[.int .i64 0, .slice none 0 0], []⟩ 8 (by kernel_rfl) (by kernel_rfl) (by kernel_rfl) (by kernel_rfl)) ?_
  intro W base args ds gs before hval0 hW hcnd _
  have hval : ∀ (j : Nat) t v, Try.f7.params[j]? = some t → args[j]? = some v → Value.okWide Try.prog W .any base t v := hval0
  have hW' := hW
  obtain ⟨p, q, hA0, hV, rfl, hfz, hnd⟩ := hW
  have hA : DataW.TrodAll enc Try.prog W 0 (fun _ => true) true Try.f7.params.toList args.toList ds p := hA0
  rw [Try.params7] at hA hval
  obtain ⟨v0, vs0, d0, ds0, p0, q0, hargs, rfl, rfl, h0, r0⟩ := trodAll_cons hA
  obtain ⟨v1, vs1, d1, ds1, p1, q1, rfl, rfl, rfl, h1, r1⟩ := trodAll_cons r0
  obtain ⟨rfl, rfl, rfl⟩ := trodAll_nil r1
  obtain rfl : args = #[v0, v1] := by cases args; simp_all
  obtain ⟨rfl, rfl⟩ := trodVars_none hV
  obtain ⟨a0, rfl, rfl, rfl, w0⟩ := open_int Try.underlying3 (hval 0 3 v0 rfl rfl) h0
  have k1 := h1
  have lt1 : ∀ x ∈ p1, x.block < W.heap.size := by obtain ⟨m, hm⟩ := k1; exact DataW.trod_lt m _ _ _ hm
  obtain ⟨b1, n1, cap1, rfl⟩ := okWide_slice Try.underlying22 (hval 1 22 v1 rfl rfl)
  obtain ⟨f1, hrow1⟩ := rows5 h1 lt1
  clear hA0 hval0
  refine (walk a0 b1 n1 cap1 f1 W w0 hrow1).mono fun e W' ⟨he, bel⟩ => ?_
  subst he
  exact ⟨_, rfl, _, _, _, [], _, [], hW', trodAll_mk1 (shut_bool Try.underlying4 _), (trodAll_cons_mk (shut_int Try.underlying3 w0) (trodAll_cons_mk (Below.trod laidOut (by kernel_rfl) (of_decide_eq_true (by kernel_rfl)) k1 bel lt1) trodAll_mk0)), rfl, bel.frame _, fun h => by cases h⟩

theorem over : Rows.libListsRow.holds Try.pinned (OpenSpec.ofChange Rows.libListsSpec) :=
  OpenClaim.holds_of_wide 7 Try.f7 rfl rfl rfl rfl rfl rfl rfl ⟨rfl, rfl, rfl, rfl, rfl⟩ rfl rfl rfl rfl rfl (by kernel_rfl) Try.func7 (by kernel_rfl)
    (of_decide_eq_true (by kernel_rfl)) (by unfold Func.isWrapper; first | (rw [if_pos (by decide +kernel)]; kernel_rfl) | (rw [if_neg (by decide +kernel)]; exact ⟨rfl, rfl⟩))
    (fun os started H enc _ => lifted os started H enc)

/-- the statement -/
theorem proved : Rows.LibListsSaid := over
end Go.Proofs.Ytgdfbpphfanocaa.libLists
