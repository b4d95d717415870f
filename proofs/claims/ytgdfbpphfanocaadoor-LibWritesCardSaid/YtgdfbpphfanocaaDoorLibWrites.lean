/-
  The statement LibWrites: for every room and script of calls the law returns true.
  Conditions: none beyond those of the given row.
-/
import Derived.Test.YtgdfbpphfanocaaDoorCards
import Derived.Test.YtgdfbpphfanocaaDoorHW
import Derived.Test.YtgdfbpphfanocaaDoorDG
import Derived.Test.YtgdfbpphfanocaaDoorTie
import Derived.SevenTiedAt
import Derived.Lib.LaidTab
import Derived.LaidMore
import Derived.Stop.Joined
import Derived.Stop.LaidErr
import Derived.ProofKit
import Derived.OpenShut
import Derived.ShutString
import Derived.ChangeOld
import Derived.Lib.SmallJoins
set_option linter.unusedVariables false
set_option linter.unusedSimpArgs false
namespace Go.Proofs.YtgdfbpphfanocaaDoor.libWrites
open Go.ChangeShapes Go.WideShapes Go.ChangeAt Go.RowKit Go.Joins
open Go.ChangeMaps (open_string shut_string)
open Lw Fw

theorem sz31 : (Tryd.prog.info? 31).map (·.size) = some 5 := by kernel_rfl
theorem ad_add (b o j : Nat) : (⟨b, o, none⟩ : Addr).add j = ⟨b, o + j, none⟩ := by unfold Addr.add; split <;> simp_all
theorem ops_in {W : World} {p : Option Addr} {n cap : Nat} {f : Nat → Lc.O5} (h : Lc.OpsRow W p n cap f) (h0 : 0 < n) : ∃ bb oo, p = some ⟨bb, oo, none⟩ ∧ ∀ i, i < n → W.rangeAt bb (oo + i * 5) [vI (f i).d, vI (f i).a, vI (f i).v, .bool (f i).f, .string (f i).s] := by
  obtain ⟨a, rfl⟩ := h.som h0
  have hsp : a.spot = none := by
    have hc := h.c0 a 0 rfl h0
    rw [Nat.zero_mul, show a.add 0 = a by unfold Addr.add; simp] at hc
    unfold World.cell? at hc
    cases hsp : a.spot with
    | none => rfl
    | some q => rw [hsp] at hc; simp at hc; split at hc <;> simp at hc
  obtain ⟨bb, oo, sp⟩ := a
  simp only at hsp
  subst hsp
  refine ⟨bb, oo, rfl, fun i hi j v hv => ?_⟩
  have c0 := h.c0 _ i rfl hi
  have c1 := h.c1 _ i rfl hi
  have c2 := h.c2 _ i rfl hi
  have c3 := h.c3 _ i rfl hi
  have c4 := h.c4 _ i rfl hi
  simp only [ad_add] at c0 c1 c2 c3 c4
  match j, hv with
  | 0, hv => simp at hv; subst hv; exact c0
  | 1, hv => simp at hv; subst hv; exact c1
  | 2, hv => simp at hv; subst hv; exact c2
  | 3, hv => simp at hv; subst hv; exact c3
  | 4, hv => simp at hv; subst hv; exact c4
  | j + 5, hv => simp at hv
theorem wf_i {n : Int} (w0 : (Lit.int .i64 n).wf = true) : -9223372036854775808 ≤ n ∧ n ≤ 9223372036854775807 := by
  have h := w0
  simp only [Lit.wf, Bool.and_eq_true, decide_eq_true_eq] at h
  rw [show IntKind.i64.min = -9223372036854775808 from by decide, show IntKind.i64.max = 9223372036854775807 from by decide] at h
  exact h
set_option maxRecDepth 20000 in
set_option maxHeartbeats 4000000 in
theorem walk (R : Int) (p : Option Addr) (n cap : Nat) (f : Nat → Lc.O5) (w : World) (w0 : (Lit.int .i64 R).wf = true) (hrow : Lc.OpsRow w p n cap f) (htab : Lib.TabIs Tryd.prog w "internal/strconv.uint64pow10" .u64 Lib.pow10Tab) :
    Calls Tryd.prog 3 #[vI R, .slice p n cap] w fun e w' => e = .returned (.bool true) ∧ Below w.heap.size w w' := by
  refine calls_of Tryd.func3 rfl (m := 88) rfl [(0, vI R), (1, .slice p n cap)] (Fr_enter [vI R, .slice p n cap] 88 (Nat.le_of_ble_eq_true rfl)) ?_
  have hH1 : HP Tr w w [] := HP.refl w
  refine WC.seq fun K2 hK2 => ?_
  refine WC.region ?_
  refine WL.pure (v := .bool false) 4 rfl (Nat.le_of_ble_eq_true rfl) rfl rfl (by kernel_rfl) ?_
  refine WL.nil ?_
  refine WQ.then ?_
  refine hK2 _ _ _ ?_
  refine WC.seq fun K3 hK3 => ?_
  refine WC.region ?_
  refine WL.pure (v := vI R) 13 rfl (Nat.le_of_ble_eq_true rfl) rfl rfl (by kernel_rfl) ?_
  refine WL.call (f := 5) (args := #[vI R]) 14 rfl (Nat.le_of_ble_eq_true rfl) rfl rfl (by kernel_rfl) ?_
  refine (NewBuffer_any R _).mono ?_
  rintro e w1 (⟨hrm, rfl, hb⟩ | ⟨hrm, b, rfl, hb⟩)
  ·
    refine ⟨_, rfl, ?_⟩
    have hH4 : HP Tr w _ [] := HP.call hH1 hb
    refine WL.pure (v := .tuple #[.pointer none, vI 1]) 12 rfl (Nat.le_of_ble_eq_true rfl) rfl rfl (by kernel_rfl) ?_
    refine WL.pure (v := .pointer none) 15 rfl (Nat.le_of_ble_eq_true rfl) rfl rfl (by kernel_rfl) ?_
    refine WL.pure (v := vI 1) 16 rfl (Nat.le_of_ble_eq_true rfl) rfl rfl (by kernel_rfl) ?_
    refine WL.pure (v := .pointer none) 5 rfl (Nat.le_of_ble_eq_true rfl) rfl rfl (by kernel_rfl) ?_
    refine WL.pure (v := vI 1) 6 rfl (Nat.le_of_ble_eq_true rfl) rfl rfl (by kernel_rfl) ?_
    refine WL.nil ?_
    refine WQ.then ?_
    refine hK3 _ _ _ ?_
    refine WC.seq fun K5 hK5 => ?_
    refine WC.region ?_
    refine WL.pure (v := vI R) 18 rfl (Nat.le_of_ble_eq_true rfl) rfl rfl (by kernel_rfl) ?_
    refine WL.call (f := 6) (args := #[vI R]) 19 rfl (Nat.le_of_ble_eq_true rfl) rfl rfl (by kernel_rfl) ?_
    refine (rNewBuffer_any R _).mono ?_
    rintro e w2 (⟨-, rfl, hb⟩ | ⟨hrm2, -⟩)
    rotate_left
    · rw [hrm] at hrm2; cases hrm2
    refine ⟨_, rfl, ?_⟩
    have hH6 : HP Tr w _ [] := HP.call hH4 hb
    refine WL.pure (v := .tuple #[.pointer none, vI 1]) 17 rfl (Nat.le_of_ble_eq_true rfl) rfl rfl (by kernel_rfl) ?_
    refine WL.pure (v := .pointer none) 20 rfl (Nat.le_of_ble_eq_true rfl) rfl rfl (by kernel_rfl) ?_
    refine WL.pure (v := vI 1) 21 rfl (Nat.le_of_ble_eq_true rfl) rfl rfl (by kernel_rfl) ?_
    refine WL.pure (v := .pointer none) 7 rfl (Nat.le_of_ble_eq_true rfl) rfl rfl (by kernel_rfl) ?_
    refine WL.pure (v := vI 1) 8 rfl (Nat.le_of_ble_eq_true rfl) rfl rfl (by kernel_rfl) ?_
    refine WL.nil ?_
    refine WQ.then ?_
    refine hK5 _ _ _ ?_
    refine WC.sub (l' := [(0, vI R), (1, .slice p n cap), (4, .bool false), (5, .pointer none), (6, vI 1), (7, .pointer none), (8, vI 1)]) ⟨rfl, rfl, rfl, rfl, rfl, rfl, rfl, trivial⟩ ?_
    refine WC.seq fun K7 hK7 => ?_
    refine WC.seq fun K8 hK8 => ?_
    refine WC.region ?_
    refine WL.pure (v := vI 1) 22 rfl (Nat.le_of_ble_eq_true rfl) rfl rfl (by kernel_rfl) ?_
    refine WL.pure (v := vI 1) 23 rfl (Nat.le_of_ble_eq_true rfl) rfl rfl (by kernel_rfl) ?_
    refine WL.pure (v := .bool false) 24 rfl (Nat.le_of_ble_eq_true rfl) rfl rfl (x_neq rfl rfl rfl (by decide)) ?_
    refine WL.nil ?_
    refine WQ.then ?_
    refine hK8 _ _ _ ?_
    refine WC.no rfl ?_
    refine WC.skip ?_
    refine WQ.then ?_
    refine hK7 _ _ _ ?_
    refine WC.seq fun K9 hK9 => ?_
    refine WC.seq fun K10 hK10 => ?_
    refine WC.region ?_
    refine WL.pure (v := vI 0) 9 rfl (Nat.le_of_ble_eq_true rfl) rfl rfl (by kernel_rfl) ?_
    refine WL.nil ?_
    refine WQ.then ?_
    refine hK10 _ _ _ ?_
    refine WC.block ?_
    refine WC.loop (fun kk0 ll0 ww0 => ∃ (i : Nat), ll0 = [(1, .slice p n cap), (5, .pointer none), (7, .pointer none), (8, vI 1), (9, vI (i : Int))] ∧ kk0 = n - i ∧ (i ≤ n) ∧ HP Tr w ww0 []) (n) [(1, .slice p n cap), (5, .pointer none), (7, .pointer none), (8, vI 1), (9, vI 0)] ⟨rfl, rfl, rfl, rfl, rfl, trivial⟩ ⟨0, rfl, rfl, Nat.zero_le _, hH6⟩ ?_
    rintro kk l w12 ⟨i, rfl, hkk, hi, hH13⟩ K11 hK11
    refine WC.seq fun K14 hK14 => ?_
    refine WC.seq fun K15 hK15 => ?_
    refine WC.region ?_
    refine WL.pure (v := vI (i : Int)) 25 rfl (Nat.le_of_ble_eq_true rfl) rfl rfl (by kernel_rfl) ?_
    refine WL.pure (v := .slice p n cap) 26 rfl (Nat.le_of_ble_eq_true rfl) rfl rfl (by kernel_rfl) ?_
    refine WL.pure (v := vI (n : Int)) 27 rfl (Nat.le_of_ble_eq_true rfl) rfl rfl (by kernel_rfl) ?_
    by_cases hlt : (i : Int) < (n : Int)
    ·
      refine WL.pure (v := .bool true) 28 rfl (Nat.le_of_ble_eq_true rfl) rfl rfl (x_lss rfl rfl rfl (dT (hlt))) ?_
      refine WL.pure (v := .bool true) 29 rfl (Nat.le_of_ble_eq_true rfl) rfl rfl (by kernel_rfl) ?_
      refine WL.pure (v := vI (i : Int)) 30 rfl (Nat.le_of_ble_eq_true rfl) rfl rfl (by kernel_rfl) ?_
      by_cases h120 : (i : Int) < 120
      ·
        refine WL.pure (v := .bool true) 31 rfl (Nat.le_of_ble_eq_true rfl) rfl rfl (x_lss rfl rfl rfl (dT (h120))) ?_
        refine WL.pure (v := .bool true) 32 rfl (Nat.le_of_ble_eq_true rfl) rfl rfl (by kernel_rfl) ?_
        refine WL.pure (v := .bool true) 33 rfl (Nat.le_of_ble_eq_true rfl) rfl rfl (by kernel_rfl) ?_
        refine WL.pure (v := vI 1) 34 rfl (Nat.le_of_ble_eq_true rfl) rfl rfl (by kernel_rfl) ?_
        refine WL.pure (v := .bool false) 35 rfl (Nat.le_of_ble_eq_true rfl) rfl rfl (x_eql rfl rfl rfl (by decide)) ?_
        refine WL.pure (v := .bool false) 36 rfl (Nat.le_of_ble_eq_true rfl) rfl rfl (by kernel_rfl) ?_
        refine WL.nil ?_
        refine WQ.then ?_
        refine hK15 _ _ _ ?_
        refine WC.sub (l' := [(1, .slice p n cap), (5, .pointer none), (7, .pointer none), (8, vI 1), (9, vI (i : Int)), (36, .bool false)]) ⟨rfl, rfl, rfl, rfl, rfl, rfl, trivial⟩ ?_
        refine WC.no rfl ?_
        refine WC.exit ?_
        refine WQ.thenExit ?_
        refine WQ.thenExit ?_
        refine WQ.inExit ?_
        refine WQ.then ?_
        refine hK9 _ _ _ ?_
        refine WC.seq fun K16 hK16 => ?_
        refine WC.region ?_
        refine WL.pure (v := .pointer none) 80 rfl (Nat.le_of_ble_eq_true rfl) rfl rfl (by kernel_rfl) ?_
        refine WL.call (f := 11) (args := #[.pointer none]) 81 rfl (Nat.le_of_ble_eq_true rfl) rfl rfl (by kernel_rfl) ?_
        refine (Ln.btext_nil _).mono ?_
        rintro e w17 ⟨rfl, hb18⟩
        refine ⟨_, rfl, ?_⟩
        have hH19 : HP Tr w _ [] := HP.call hH13 hb18
        refine WL.pure (v := .pointer none) 82 rfl (Nat.le_of_ble_eq_true rfl) rfl rfl (by kernel_rfl) ?_
        refine WL.call (f := 12) (args := #[.pointer none]) 83 rfl (Nat.le_of_ble_eq_true rfl) rfl rfl (by kernel_rfl) ?_
        refine (rText_nil _).mono ?_
        rintro e w20 ⟨rfl, hb21⟩
        refine ⟨_, rfl, ?_⟩
        have hH22 : HP Tr w _ [] := HP.call hH19 hb21
        refine WL.pure (v := .bool true) 84 rfl (Nat.le_of_ble_eq_true rfl) rfl rfl (x_eqls rfl rfl rfl (dT rfl)) ?_
        refine WL.pure (v := .bool true) 85 rfl (Nat.le_of_ble_eq_true rfl) rfl rfl (by kernel_rfl) ?_
        refine WL.call (f := 13) (args := #[]) 86 rfl (Nat.le_of_ble_eq_true rfl) rfl rfl (by kernel_rfl) ?_
        refine (Lc.sane_any _).mono ?_
        rintro e w23 ⟨rfl, hb24⟩
        refine ⟨_, rfl, ?_⟩
        have hH25 : HP Tr w _ [] := HP.call hH22 hb24
        refine WL.pure (v := .bool true) 87 rfl (Nat.le_of_ble_eq_true rfl) rfl rfl (by kernel_rfl) ?_
        refine WL.pure (v := .bool true) 4 rfl (Nat.le_of_ble_eq_true rfl) rfl rfl (by kernel_rfl) ?_
        refine WL.nil ?_
        refine WQ.then ?_
        refine hK16 _ _ _ ?_
        refine WC.sub (l' := [(1, .slice p n cap), (4, .bool true), (5, .pointer none), (7, .pointer none), (8, vI 1), (9, vI (i : Int)), (36, .bool false)]) ⟨rfl, rfl, rfl, rfl, rfl, rfl, rfl, trivial⟩ ?_
        refine WC.ret ?_
        refine WQ.ret1 4 rfl rfl ?_
        exact ⟨rfl, HP.below hH25⟩
      ·
        refine WL.pure (v := .bool false) 31 rfl (Nat.le_of_ble_eq_true rfl) rfl rfl (x_lss rfl rfl rfl (dF (h120))) ?_
        refine WL.pure (v := .bool false) 32 rfl (Nat.le_of_ble_eq_true rfl) rfl rfl (by kernel_rfl) ?_
        refine WL.pure (v := .bool false) 33 rfl (Nat.le_of_ble_eq_true rfl) rfl rfl (by kernel_rfl) ?_
        refine WL.pass 34 rfl (Nat.le_of_ble_eq_true rfl) rfl ?_
        refine WL.pass 35 rfl (Nat.le_of_ble_eq_true rfl) rfl ?_
        refine WL.pure (v := .bool false) 36 rfl (Nat.le_of_ble_eq_true rfl) rfl rfl (by kernel_rfl) ?_
        refine WL.nil ?_
        refine WQ.then ?_
        refine hK15 _ _ _ ?_
        refine WC.sub (l' := [(1, .slice p n cap), (5, .pointer none), (7, .pointer none), (8, vI 1), (9, vI (i : Int)), (36, .bool false)]) ⟨rfl, rfl, rfl, rfl, rfl, rfl, trivial⟩ ?_
        refine WC.no rfl ?_
        refine WC.exit ?_
        refine WQ.thenExit ?_
        refine WQ.thenExit ?_
        refine WQ.inExit ?_
        refine WQ.then ?_
        refine hK9 _ _ _ ?_
        refine WC.seq fun K26 hK26 => ?_
        refine WC.region ?_
        refine WL.pure (v := .pointer none) 80 rfl (Nat.le_of_ble_eq_true rfl) rfl rfl (by kernel_rfl) ?_
        refine WL.call (f := 11) (args := #[.pointer none]) 81 rfl (Nat.le_of_ble_eq_true rfl) rfl rfl (by kernel_rfl) ?_
        refine (Ln.btext_nil _).mono ?_
        rintro e w27 ⟨rfl, hb28⟩
        refine ⟨_, rfl, ?_⟩
        have hH29 : HP Tr w _ [] := HP.call hH13 hb28
        refine WL.pure (v := .pointer none) 82 rfl (Nat.le_of_ble_eq_true rfl) rfl rfl (by kernel_rfl) ?_
        refine WL.call (f := 12) (args := #[.pointer none]) 83 rfl (Nat.le_of_ble_eq_true rfl) rfl rfl (by kernel_rfl) ?_
        refine (rText_nil _).mono ?_
        rintro e w30 ⟨rfl, hb31⟩
        refine ⟨_, rfl, ?_⟩
        have hH32 : HP Tr w _ [] := HP.call hH29 hb31
        refine WL.pure (v := .bool true) 84 rfl (Nat.le_of_ble_eq_true rfl) rfl rfl (x_eqls rfl rfl rfl (dT rfl)) ?_
        refine WL.pure (v := .bool true) 85 rfl (Nat.le_of_ble_eq_true rfl) rfl rfl (by kernel_rfl) ?_
        refine WL.call (f := 13) (args := #[]) 86 rfl (Nat.le_of_ble_eq_true rfl) rfl rfl (by kernel_rfl) ?_
        refine (Lc.sane_any _).mono ?_
        rintro e w33 ⟨rfl, hb34⟩
        refine ⟨_, rfl, ?_⟩
        have hH35 : HP Tr w _ [] := HP.call hH32 hb34
        refine WL.pure (v := .bool true) 87 rfl (Nat.le_of_ble_eq_true rfl) rfl rfl (by kernel_rfl) ?_
        refine WL.pure (v := .bool true) 4 rfl (Nat.le_of_ble_eq_true rfl) rfl rfl (by kernel_rfl) ?_
        refine WL.nil ?_
        refine WQ.then ?_
        refine hK26 _ _ _ ?_
        refine WC.sub (l' := [(1, .slice p n cap), (4, .bool true), (5, .pointer none), (7, .pointer none), (8, vI 1), (9, vI (i : Int)), (36, .bool false)]) ⟨rfl, rfl, rfl, rfl, rfl, rfl, rfl, trivial⟩ ?_
        refine WC.ret ?_
        refine WQ.ret1 4 rfl rfl ?_
        exact ⟨rfl, HP.below hH35⟩
    ·
      refine WL.pure (v := .bool false) 28 rfl (Nat.le_of_ble_eq_true rfl) rfl rfl (x_lss rfl rfl rfl (dF (hlt))) ?_
      refine WL.pure (v := .bool false) 29 rfl (Nat.le_of_ble_eq_true rfl) rfl rfl (by kernel_rfl) ?_
      refine WL.pass 30 rfl (Nat.le_of_ble_eq_true rfl) rfl ?_
      refine WL.pass 31 rfl (Nat.le_of_ble_eq_true rfl) rfl ?_
      refine WL.pure (v := .bool false) 32 rfl (Nat.le_of_ble_eq_true rfl) rfl rfl (by kernel_rfl) ?_
      refine WL.pure (v := .bool false) 33 rfl (Nat.le_of_ble_eq_true rfl) rfl rfl (by kernel_rfl) ?_
      refine WL.pass 34 rfl (Nat.le_of_ble_eq_true rfl) rfl ?_
      refine WL.pass 35 rfl (Nat.le_of_ble_eq_true rfl) rfl ?_
      refine WL.pure (v := .bool false) 36 rfl (Nat.le_of_ble_eq_true rfl) rfl rfl (by kernel_rfl) ?_
      refine WL.nil ?_
      refine WQ.then ?_
      refine hK15 _ _ _ ?_
      refine WC.sub (l' := [(1, .slice p n cap), (5, .pointer none), (7, .pointer none), (8, vI 1), (9, vI (i : Int)), (36, .bool false)]) ⟨rfl, rfl, rfl, rfl, rfl, rfl, trivial⟩ ?_
      refine WC.no rfl ?_
      refine WC.exit ?_
      refine WQ.thenExit ?_
      refine WQ.thenExit ?_
      refine WQ.inExit ?_
      refine WQ.then ?_
      refine hK9 _ _ _ ?_
      refine WC.seq fun K36 hK36 => ?_
      refine WC.region ?_
      refine WL.pure (v := .pointer none) 80 rfl (Nat.le_of_ble_eq_true rfl) rfl rfl (by kernel_rfl) ?_
      refine WL.call (f := 11) (args := #[.pointer none]) 81 rfl (Nat.le_of_ble_eq_true rfl) rfl rfl (by kernel_rfl) ?_
      refine (Ln.btext_nil _).mono ?_
      rintro e w37 ⟨rfl, hb38⟩
      refine ⟨_, rfl, ?_⟩
      have hH39 : HP Tr w _ [] := HP.call hH13 hb38
      refine WL.pure (v := .pointer none) 82 rfl (Nat.le_of_ble_eq_true rfl) rfl rfl (by kernel_rfl) ?_
      refine WL.call (f := 12) (args := #[.pointer none]) 83 rfl (Nat.le_of_ble_eq_true rfl) rfl rfl (by kernel_rfl) ?_
      refine (rText_nil _).mono ?_
      rintro e w40 ⟨rfl, hb41⟩
      refine ⟨_, rfl, ?_⟩
      have hH42 : HP Tr w _ [] := HP.call hH39 hb41
      refine WL.pure (v := .bool true) 84 rfl (Nat.le_of_ble_eq_true rfl) rfl rfl (x_eqls rfl rfl rfl (dT rfl)) ?_
      refine WL.pure (v := .bool true) 85 rfl (Nat.le_of_ble_eq_true rfl) rfl rfl (by kernel_rfl) ?_
      refine WL.call (f := 13) (args := #[]) 86 rfl (Nat.le_of_ble_eq_true rfl) rfl rfl (by kernel_rfl) ?_
      refine (Lc.sane_any _).mono ?_
      rintro e w43 ⟨rfl, hb44⟩
      refine ⟨_, rfl, ?_⟩
      have hH45 : HP Tr w _ [] := HP.call hH42 hb44
      refine WL.pure (v := .bool true) 87 rfl (Nat.le_of_ble_eq_true rfl) rfl rfl (by kernel_rfl) ?_
      refine WL.pure (v := .bool true) 4 rfl (Nat.le_of_ble_eq_true rfl) rfl rfl (by kernel_rfl) ?_
      refine WL.nil ?_
      refine WQ.then ?_
      refine hK36 _ _ _ ?_
      refine WC.sub (l' := [(1, .slice p n cap), (4, .bool true), (5, .pointer none), (7, .pointer none), (8, vI 1), (9, vI (i : Int)), (36, .bool false)]) ⟨rfl, rfl, rfl, rfl, rfl, rfl, rfl, trivial⟩ ?_
      refine WC.ret ?_
      refine WQ.ret1 4 rfl rfl ?_
      exact ⟨rfl, HP.below hH45⟩
  ·
    refine ⟨_, rfl, ?_⟩
    have hR := Lc.rm_t hrm
    have hH46 : HP Tr w _ [.cel b #[vI R, .slice none ([] : List UInt8).length 0] 62, .own (.slice none ([] : List UInt8).length 0) ([] : List UInt8).length (bC ([] : List UInt8)) 5 1] := HP.trans hH1 hb
    refine WL.pure (v := .tuple #[vP b 0, vI 0]) 12 rfl (Nat.le_of_ble_eq_true rfl) rfl rfl (by kernel_rfl) ?_
    refine WL.pure (v := vP b 0) 15 rfl (Nat.le_of_ble_eq_true rfl) rfl rfl (by kernel_rfl) ?_
    refine WL.pure (v := vI 0) 16 rfl (Nat.le_of_ble_eq_true rfl) rfl rfl (by kernel_rfl) ?_
    refine WL.pure (v := vP b 0) 5 rfl (Nat.le_of_ble_eq_true rfl) rfl rfl (by kernel_rfl) ?_
    refine WL.pure (v := vI 0) 6 rfl (Nat.le_of_ble_eq_true rfl) rfl rfl (by kernel_rfl) ?_
    refine WL.nil ?_
    refine WQ.then ?_
    refine hK3 _ _ _ ?_
    refine WC.seq fun K47 hK47 => ?_
    refine WC.region ?_
    refine WL.pure (v := vI R) 18 rfl (Nat.le_of_ble_eq_true rfl) rfl rfl (by kernel_rfl) ?_
    refine WL.call (f := 6) (args := #[vI R]) 19 rfl (Nat.le_of_ble_eq_true rfl) rfl rfl (by kernel_rfl) ?_
    refine (rNewBuffer_any R _).mono ?_
    rintro e w2 (⟨hrm2, -⟩ | ⟨-, r, rfl, hb⟩)
    · rw [hrm] at hrm2; cases hrm2
    refine ⟨_, rfl, ?_⟩
    have hH48 : HP Tr w _ [.cel b #[vI R, .slice none ([] : List UInt8).length 0] 62, .own (.slice none ([] : List UInt8).length 0) ([] : List UInt8).length (bC ([] : List UInt8)) 5 1, .cel r #[.string (bS ([] : List UInt8)), vI R] 66] := HP.trans hH46 hb
    refine WL.pure (v := .tuple #[vP r 0, vI 0]) 17 rfl (Nat.le_of_ble_eq_true rfl) rfl rfl (by kernel_rfl) ?_
    refine WL.pure (v := vP r 0) 20 rfl (Nat.le_of_ble_eq_true rfl) rfl rfl (by kernel_rfl) ?_
    refine WL.pure (v := vI 0) 21 rfl (Nat.le_of_ble_eq_true rfl) rfl rfl (by kernel_rfl) ?_
    refine WL.pure (v := vP r 0) 7 rfl (Nat.le_of_ble_eq_true rfl) rfl rfl (by kernel_rfl) ?_
    refine WL.pure (v := vI 0) 8 rfl (Nat.le_of_ble_eq_true rfl) rfl rfl (by kernel_rfl) ?_
    refine WL.nil ?_
    refine WQ.then ?_
    refine hK47 _ _ _ ?_
    refine WC.sub (l' := [(0, vI R), (1, .slice p n cap), (4, .bool false), (5, vP b 0), (6, vI 0), (7, vP r 0), (8, vI 0)]) ⟨rfl, rfl, rfl, rfl, rfl, rfl, rfl, trivial⟩ ?_
    refine WC.seq fun K49 hK49 => ?_
    refine WC.seq fun K50 hK50 => ?_
    refine WC.region ?_
    refine WL.pure (v := vI 0) 22 rfl (Nat.le_of_ble_eq_true rfl) rfl rfl (by kernel_rfl) ?_
    refine WL.pure (v := vI 0) 23 rfl (Nat.le_of_ble_eq_true rfl) rfl rfl (by kernel_rfl) ?_
    refine WL.pure (v := .bool false) 24 rfl (Nat.le_of_ble_eq_true rfl) rfl rfl (x_neq rfl rfl rfl (by decide)) ?_
    refine WL.nil ?_
    refine WQ.then ?_
    refine hK50 _ _ _ ?_
    refine WC.no rfl ?_
    refine WC.skip ?_
    refine WQ.then ?_
    refine hK49 _ _ _ ?_
    refine WC.seq fun K51 hK51 => ?_
    refine WC.seq fun K52 hK52 => ?_
    refine WC.region ?_
    refine WL.pure (v := vI 0) 9 rfl (Nat.le_of_ble_eq_true rfl) rfl rfl (by kernel_rfl) ?_
    refine WL.nil ?_
    refine WQ.then ?_
    refine hK52 _ _ _ ?_
    refine WC.block ?_
    refine WC.loop (fun kk0 ll0 ww0 => ∃ (i : Nat) (bs : List UInt8) (pv : Option Addr) (cp : Nat), ll0 = [(1, .slice p n cap), (5, vP b 0), (7, vP r 0), (8, vI 0), (9, vI (i : Int))] ∧ kk0 = n - i ∧ (i ≤ n) ∧ ((bs.length : Int) ≤ R) ∧ HP Tr w ww0 [.cel b #[vI R, .slice pv bs.length cp] 62, .own (.slice pv bs.length cp) bs.length (bC bs) 5 1, .cel r #[.string (bS bs), vI R] 66]) (n) [(1, .slice p n cap), (5, vP b 0), (7, vP r 0), (8, vI 0), (9, vI 0)] ⟨rfl, rfl, rfl, rfl, rfl, trivial⟩ ⟨0, [], none, 0, rfl, rfl, Nat.zero_le _, by simp; omega, hH48⟩ ?_
    rintro kk l w54 ⟨i, bs, pv, cp, rfl, hkk, hi, hx, hH55⟩ K53 hK53
    refine WC.seq fun K56 hK56 => ?_
    refine WC.seq fun K57 hK57 => ?_
    refine WC.region ?_
    refine WL.pure (v := vI (i : Int)) 25 rfl (Nat.le_of_ble_eq_true rfl) rfl rfl (by kernel_rfl) ?_
    refine WL.pure (v := .slice p n cap) 26 rfl (Nat.le_of_ble_eq_true rfl) rfl rfl (by kernel_rfl) ?_
    refine WL.pure (v := vI (n : Int)) 27 rfl (Nat.le_of_ble_eq_true rfl) rfl rfl (by kernel_rfl) ?_
    by_cases hlt : (i : Int) < (n : Int)
    ·
      refine WL.pure (v := .bool true) 28 rfl (Nat.le_of_ble_eq_true rfl) rfl rfl (x_lss rfl rfl rfl (dT (hlt))) ?_
      refine WL.pure (v := .bool true) 29 rfl (Nat.le_of_ble_eq_true rfl) rfl rfl (by kernel_rfl) ?_
      refine WL.pure (v := vI (i : Int)) 30 rfl (Nat.le_of_ble_eq_true rfl) rfl rfl (by kernel_rfl) ?_
      by_cases h120 : (i : Int) < 120
      ·
        refine WL.pure (v := .bool true) 31 rfl (Nat.le_of_ble_eq_true rfl) rfl rfl (x_lss rfl rfl rfl (dT (h120))) ?_
        refine WL.pure (v := .bool true) 32 rfl (Nat.le_of_ble_eq_true rfl) rfl rfl (by kernel_rfl) ?_
        refine WL.pure (v := .bool true) 33 rfl (Nat.le_of_ble_eq_true rfl) rfl rfl (by kernel_rfl) ?_
        refine WL.pure (v := vI 0) 34 rfl (Nat.le_of_ble_eq_true rfl) rfl rfl (by kernel_rfl) ?_
        refine WL.pure (v := .bool true) 35 rfl (Nat.le_of_ble_eq_true rfl) rfl rfl (x_eql rfl rfl rfl (by decide)) ?_
        refine WL.pure (v := .bool true) 36 rfl (Nat.le_of_ble_eq_true rfl) rfl rfl (by kernel_rfl) ?_
        refine WL.nil ?_
        refine WQ.then ?_
        refine hK57 _ _ _ ?_
        refine WC.sub (l' := [(1, .slice p n cap), (5, vP b 0), (7, vP r 0), (8, vI 0), (9, vI (i : Int)), (36, .bool true)]) ⟨rfl, rfl, rfl, rfl, rfl, rfl, trivial⟩ ?_
        refine WC.yes rfl ?_
        refine WC.skip ?_
        refine WQ.then ?_
        refine hK56 _ _ _ ?_
        refine WC.seq fun K58 hK58 => ?_
        refine WC.block ?_
        refine WC.seq fun K59 hK59 => ?_
        have hwf := wf_i (hrow.ss i (by omega)).2
        obtain ⟨bb, oo, rfl, hops⟩ := ops_in hrow (by omega)
        refine WC.region ?_
        refine WL.pure (v := .slice (some ⟨bb, oo, none⟩) n cap) 39 rfl (Nat.le_of_ble_eq_true rfl) rfl rfl (by kernel_rfl) ?_
        refine WL.pure (v := vI (i : Int)) 40 rfl (Nat.le_of_ble_eq_true rfl) rfl rfl (by kernel_rfl) ?_
        refine WL.pure (v := vP bb (oo + i * 5)) 41 rfl (Nat.le_of_ble_eq_true rfl) rfl rfl (x_idx (i) (oo + i * 5) rfl rfl rfl Tryd.underlying22 sz31 (by omega) (by omega) (by omega)) ?_
        refine WL.pure (v := .agg #[vI ((f i).d), vI ((f i).a), vI ((f i).v), .bool ((f i).f), .string ((f i).s)]) 42 rfl (Nat.le_of_ble_eq_true rfl) rfl rfl (x_loadS (cs := [vI ((f i).d), vI ((f i).a), vI ((f i).v), .bool ((f i).f), .string ((f i).s)]) rfl rfl Tryd.underlying31 rfl sz31 (HP.oldRange hH55 trivial (hops i (by omega)))) ?_
        refine WL.alloc (c := #[vI 0, vI 0, vI 0, .bool false, .string (⟨#[]⟩)]) (T := 31) hH55 10 rfl (by decide) rfl rfl (fun b60 => vP b60 0) (by kernel_rfl) (fun b60 w61 hw61 => ?_)
        have hH62 : HP Tr w w61 [.cel b #[vI R, .slice pv bs.length cp] 62, .own (.slice pv bs.length cp) bs.length (bC bs) 5 1, .cel r #[.string (bS bs), vI R] 66, .cel b60 #[vI 0, vI 0, vI 0, .bool false, .string (⟨#[]⟩)] 31] := hw61.2
        have nb60 := hw61.1
        clear hw61
        refine WL.storeS (H2 := [.cel b #[vI R, .slice pv bs.length cp] 62, .own (.slice pv bs.length cp) bs.length (bC bs) 5 1, .cel r #[.string (bS bs), vI R] 66, .cel b60 #[vI ((f i).d), vI ((f i).a), vI ((f i).v), .bool ((f i).f), .string ((f i).s)] 31]) 3 hH62 rfl rfl rfl rfl rfl rfl sz31 rfl (Nat.le_of_ble_eq_true rfl) rfl rfl ?_
        intro w63 hH64
        refine WL.nil ?_
        refine WQ.then ?_
        refine hK59 _ _ _ ?_
        refine WC.seq fun K65 hK65 => ?_
        refine WC.seq fun K66 hK66 => ?_
        refine WC.region ?_
        refine WL.pure (v := vP b60 4) 43 rfl (Nat.le_of_ble_eq_true rfl) rfl rfl (by kernel_rfl) ?_
        refine WL.pure (v := .string ((f i).s)) 44 rfl (Nat.le_of_ble_eq_true rfl) rfl rfl (x_load rfl rfl Tryd.underlying9 rfl (HP.cell hH64 3 rfl rfl)) ?_
        refine WL.pure (v := vI (((f i).s).size : Int)) 45 rfl (Nat.le_of_ble_eq_true rfl) rfl rfl (by kernel_rfl) ?_
        by_cases hbig : (1000 : Int) < (((f i).s).size : Int)
        ·
          refine WL.pure (v := .bool true) 46 rfl (Nat.le_of_ble_eq_true rfl) rfl rfl (x_gtr rfl rfl rfl (dT (hbig))) ?_
          refine WL.nil ?_
          refine WQ.then ?_
          refine hK66 _ _ _ ?_
          refine WC.sub (l' := [(1, .slice (some ⟨bb, oo, none⟩) n cap), (5, vP b 0), (7, vP r 0), (8, vI 0), (9, vI (i : Int)), (10, vP b60 0), (36, .bool true), (46, .bool true)]) ⟨rfl, rfl, rfl, rfl, rfl, rfl, rfl, rfl, trivial⟩ ?_
          refine WC.yes rfl ?_
          refine WC.exit ?_
          refine WQ.thenExit ?_
          refine WQ.inExit ?_
          refine WQ.then ?_
          refine hK58 _ _ _ ?_
          refine WC.region ?_
          refine WL.pure (v := vI (i : Int)) 37 rfl (Nat.le_of_ble_eq_true rfl) rfl rfl (by kernel_rfl) ?_
          refine WL.pure (v := vI ((i + 1 : Nat) : Int)) 38 rfl (Nat.le_of_ble_eq_true rfl) rfl rfl (x_add (Z := ((i + 1 : Nat) : Int)) rfl rfl rfl (by omega) (by omega) (by omega)) ?_
          refine WL.pure (v := vI ((i + 1 : Nat) : Int)) 9 rfl (Nat.le_of_ble_eq_true rfl) rfl rfl (by kernel_rfl) ?_
          refine WL.nil ?_
          refine WQ.sub (l' := [(1, .slice (some ⟨bb, oo, none⟩) n cap), (5, vP b 0), (7, vP r 0), (8, vI 0), (9, vI ((i + 1 : Nat) : Int))]) ⟨rfl, rfl, rfl, rfl, rfl, trivial⟩ ?_
          refine WQ.then (hK53 _ _ _ (by omega) ⟨i + 1, bs, pv, cp, rfl, rfl, by omega, hx, (HP.drop hH64 3)⟩)
        ·
          refine WL.pure (v := .bool false) 46 rfl (Nat.le_of_ble_eq_true rfl) rfl rfl (x_gtr rfl rfl rfl (dF (hbig))) ?_
          refine WL.nil ?_
          refine WQ.then ?_
          refine hK66 _ _ _ ?_
          refine WC.sub (l' := [(1, .slice (some ⟨bb, oo, none⟩) n cap), (5, vP b 0), (7, vP r 0), (8, vI 0), (9, vI (i : Int)), (10, vP b60 0), (36, .bool true), (46, .bool false)]) ⟨rfl, rfl, rfl, rfl, rfl, rfl, rfl, rfl, trivial⟩ ?_
          refine WC.no rfl ?_
          refine WC.skip ?_
          refine WQ.then ?_
          refine hK65 _ _ _ ?_
          refine WC.seq fun K67 hK67 => ?_
          refine WC.region ?_
          refine WL.pure (v := .bool true) 11 rfl (Nat.le_of_ble_eq_true rfl) rfl rfl (by kernel_rfl) ?_
          refine WL.nil ?_
          refine WQ.then ?_
          refine hK67 _ _ _ ?_
          refine WC.seq fun K68 hK68 => ?_
          refine WC.seq fun K69 hK69 => ?_
          refine WC.region ?_
          refine WL.pure (v := vP b60 0) 47 rfl (Nat.le_of_ble_eq_true rfl) rfl rfl (by kernel_rfl) ?_
          refine WL.pure (v := vI ((f i).d)) 48 rfl (Nat.le_of_ble_eq_true rfl) rfl rfl (x_load rfl rfl Tryd.underlying3 rfl (HP.cell hH64 3 rfl rfl)) ?_
          refine WL.nil ?_
          refine WQ.then ?_
          refine hK69 _ _ _ ?_
          refine WC.block ?_
          refine WC.seq fun K70 hK70 => ?_
          refine WC.region ?_
          by_cases h1 : (f i).d = 1
          ·
            refine WL.pure (v := .bool true) 50 rfl (Nat.le_of_ble_eq_true rfl) rfl rfl (x_eql rfl rfl rfl (dT (h1))) ?_
            refine WL.pure (v := .bool true) 49 rfl (Nat.le_of_ble_eq_true rfl) rfl rfl (by kernel_rfl) ?_
            refine WL.nil ?_
            refine WQ.then ?_
            refine hK70 _ _ _ ?_
            refine WC.yes rfl ?_
            refine WC.confG (γ := Option Addr × Nat) [(1, .slice (some ⟨bb, oo, none⟩) n cap), (5, vP b 0), (7, vP r 0), (8, vI 0), (9, vI (i : Int)), (10, vP b60 0), (36, .bool true), (46, .bool false), (48, vI ((f i).d)), (49, .bool true)] (fun y => [vP b 0, vP b60 4, .string (f i).s, vI (wE R bs (f i).s), vP r 0, vP b60 4, .string (f i).s, vI (wE R bs (f i).s), .bool true, .bool true]) (fun y D wz => HP Tr w wz ((bif D 3 then [Ent.cel b #[vI R, .slice y.1 (wX R bs (f i).s).length y.2] 62, Ent.own (.slice y.1 (wX R bs (f i).s).length y.2) (wX R bs (f i).s).length (bC (wX R bs (f i).s)) 5 1] else [Ent.cel b #[vI R, .slice pv bs.length cp] 62, Ent.own (.slice pv bs.length cp) bs.length (bC bs) 5 1]) ++ ((bif D 7 then [Ent.cel r #[.string (bS (wX R bs (f i).s)), vI R] 66] else [Ent.cel r #[.string (bS bs), vI R] 66]) ++ [.cel b60 #[vI ((f i).d), vI ((f i).a), vI ((f i).v), .bool ((f i).f), .string ((f i).s)] 31]))) (none, 0) (by kernel_rfl) ⟨rfl, rfl, rfl, rfl, rfl, rfl, rfl, rfl, rfl, rfl, trivial⟩ (by kernel_rfl) (by kernel_rfl) (by kernel_rfl) (fun _ => rfl) (by kernel_rfl) (HP.drew hH64) ?_ ?_
            · refine AllOk.cons ?o0 (AllOk.cons ?o1 (AllOk.cons ?o2 (AllOk.cons ?o3 (AllOk.cons ?o4 (AllOk.cons ?o5 (AllOk.cons ?o6 (AllOk.cons ?o7 (AllOk.cons ?o8 (AllOk.cons ?o9 (AllOk.nil _))))))))))
              case o0 =>
                intro y D wz hDi hdep hclo hW
                exact .inl ⟨rfl, rfl, .inl ⟨y, wz, fun _ _ => rfl, by kernel_rfl, hW⟩⟩
              case o1 =>
                intro y D wz hDi hdep hclo hW
                exact .inl ⟨rfl, rfl, .inl ⟨y, wz, fun _ _ => rfl, by kernel_rfl, hW⟩⟩
              case o2 =>
                intro y D wz hDi hdep hclo hW
                have hq : wz.cell? ⟨b60, 4, none⟩ = some (.string (f i).s) := by
                  cases h3 : D 3 <;> cases h7 : D 7 <;> simp only [h3, h7, cond_true, cond_false] at hW <;> exact HP.cell hW 3 rfl rfl
                exact .inl ⟨rfl, rfl, .inl ⟨y, wz, fun _ _ => rfl, x_load rfl rfl Tryd.underlying9 rfl hq, hW⟩⟩
              case o3 =>
                intro y D wz hDi hdep hclo hW
                simp only [hDi, cond_false] at hW
                refine .inl ⟨rfl, rfl, .inr (.inr ⟨7, #[vP b 0, .string (f i).s], by kernel_rfl, (Write_any b R pv cp bs (f i).s _ (HP.ownF (A := [Ent.cel b #[vI R, .slice pv bs.length cp] 62, Ent.own (.slice pv bs.length cp) bs.length (bC bs) 5 1]) hW) hR hx).mono ?_⟩)⟩
                rintro e w3 ⟨pv3, cp3, he, hb3⟩
                refine ⟨(pv3, cp3), fun j hj => ?_, he, ?_⟩
                · match j, hj with
                  | 0, hj => rfl
                  | 1, hj => rfl
                  | 2, hj => rfl
                  | 3, hj => rfl
                  | 4, hj => rfl
                  | 5, hj => rfl
                  | 6, hj => rfl
                  | 7, hj => rfl
                  | 8, hj => rfl
                  | 9, hj => rfl
                  | j + 10, _ => rfl
                · exact HP.exchF (A := [Ent.cel b #[vI R, .slice pv bs.length cp] 62, Ent.own (.slice pv bs.length cp) bs.length (bC bs) 5 1]) hW hb3
              case o4 =>
                intro y D wz hDi hdep hclo hW
                exact .inl ⟨rfl, rfl, .inl ⟨y, wz, fun _ _ => rfl, by kernel_rfl, hW⟩⟩
              case o5 =>
                intro y D wz hDi hdep hclo hW
                exact .inl ⟨rfl, rfl, .inl ⟨y, wz, fun _ _ => rfl, by kernel_rfl, hW⟩⟩
              case o6 =>
                intro y D wz hDi hdep hclo hW
                have hq : wz.cell? ⟨b60, 4, none⟩ = some (.string (f i).s) := by
                  cases h3 : D 3 <;> cases h7 : D 7 <;> simp only [h3, h7, cond_true, cond_false] at hW <;> exact HP.cell hW 3 rfl rfl
                exact .inl ⟨rfl, rfl, .inl ⟨y, wz, fun _ _ => rfl, x_load rfl rfl Tryd.underlying9 rfl hq, hW⟩⟩
              case o7 =>
                intro y D wz hDi hdep hclo hW
                simp only [hDi, cond_false] at hW
                refine .inl ⟨rfl, rfl, .inr (.inr ⟨8, #[vP r 0, .string (f i).s], by kernel_rfl, (rWrite_any r R bs (f i).s _ (HP.ownM (R := [Ent.cel r #[.string (bS bs), vI R] 66]) hW) hR hx).mono ?_⟩)⟩
                rintro e w3 ⟨he, hb3⟩
                refine ⟨y, fun j hj => rfl, he, ?_⟩
                exact HP.exchM (R := [Ent.cel r #[.string (bS bs), vI R] 66]) hW hb3
              case o8 =>
                intro y D wz hDi hdep hclo hW
                exact .inl ⟨rfl, rfl, .inl ⟨y, wz, fun _ _ => rfl, x_eql rfl rfl rfl (dT rfl), hW⟩⟩
              case o9 =>
                intro y D wz hDi hdep hclo hW
                exact .inl ⟨rfl, rfl, .inl ⟨y, wz, fun _ _ => rfl, by kernel_rfl, hW⟩⟩
            rintro ⟨pv3, cp3⟩ D w9 hall hW
            simp only [hall 3 (by kernel_rfl), hall 7 (by kernel_rfl), cond_true] at hW
            clear hall
            refine WQ.sub (l' := [(1, .slice (some ⟨bb, oo, none⟩) n cap), (5, vP b 0), (7, vP r 0), (8, vI 0), (9, vI (i : Int)), (10, vP b60 0), (11, .bool true), (36, .bool true), (46, .bool false), (48, vI ((f i).d)), (49, .bool true)]) ⟨rfl, rfl, rfl, rfl, rfl, rfl, rfl, rfl, rfl, rfl, rfl, trivial⟩ ?_
            have hH71 : HP Tr w _ [.cel b #[vI R, .slice pv3 (wX R bs (f i).s).length cp3] 62, .own (.slice pv3 (wX R bs (f i).s).length cp3) (wX R bs (f i).s).length (bC (wX R bs (f i).s)) 5 1, .cel r #[.string (bS (wX R bs (f i).s)), vI R] 66, .cel b60 #[vI ((f i).d), vI ((f i).a), vI ((f i).v), .bool ((f i).f), .string ((f i).s)] 31] := hW
            refine WQ.inNormal ?_
            refine WQ.then ?_
            refine hK68 _ _ _ ?_
            refine WC.seq fun K72 hK72 => ?_
            refine WC.region ?_
            refine WL.pure (v := .bool true) 71 rfl (Nat.le_of_ble_eq_true rfl) rfl rfl (by kernel_rfl) ?_
            refine WL.pure (v := .bool false) 72 rfl (Nat.le_of_ble_eq_true rfl) rfl rfl (by kernel_rfl) ?_
            refine WL.pure (v := .bool false) 73 rfl (Nat.le_of_ble_eq_true rfl) rfl rfl (by kernel_rfl) ?_
            refine WL.pure (v := vP b 0) 74 rfl (Nat.le_of_ble_eq_true rfl) rfl rfl (by kernel_rfl) ?_
            refine WL.call (f := 11) (args := #[vP b 0]) 75 rfl (Nat.le_of_ble_eq_true rfl) rfl rfl (by kernel_rfl) ?_
            refine (Text_any b R pv3 cp3 (wX R bs (f i).s) _ (HP.ownF (A := [.cel b #[vI R, .slice pv3 (wX R bs (f i).s).length cp3] 62, .own (.slice pv3 (wX R bs (f i).s).length cp3) (wX R bs (f i).s).length (bC (wX R bs (f i).s)) 5 1]) (B := [.cel r #[.string (bS (wX R bs (f i).s)), vI R] 66, .cel b60 #[vI ((f i).d), vI ((f i).a), vI ((f i).v), .bool ((f i).f), .string ((f i).s)] 31]) hH71) hR (len_w hx)).mono ?_
            rintro e w73 ⟨rfl, hb74⟩
            refine ⟨_, rfl, ?_⟩
            have hH75 : HP Tr w _ [.cel b #[vI R, .slice pv3 (wX R bs (f i).s).length cp3] 62, .own (.slice pv3 (wX R bs (f i).s).length cp3) (wX R bs (f i).s).length (bC (wX R bs (f i).s)) 5 1, .cel r #[.string (bS (wX R bs (f i).s)), vI R] 66, .cel b60 #[vI ((f i).d), vI ((f i).a), vI ((f i).v), .bool ((f i).f), .string ((f i).s)] 31] := HP.call hH71 hb74
            refine WL.pure (v := vP r 0) 76 rfl (Nat.le_of_ble_eq_true rfl) rfl rfl (by kernel_rfl) ?_
            refine WL.call (f := 12) (args := #[vP r 0]) 77 rfl (Nat.le_of_ble_eq_true rfl) rfl rfl (by kernel_rfl) ?_
            refine (rText_any r R (wX R bs (f i).s) _ (HP.ownM (A := [.cel b #[vI R, .slice pv3 (wX R bs (f i).s).length cp3] 62, .own (.slice pv3 (wX R bs (f i).s).length cp3) (wX R bs (f i).s).length (bC (wX R bs (f i).s)) 5 1]) (R := [.cel r #[.string (bS (wX R bs (f i).s)), vI R] 66]) (C := [.cel b60 #[vI ((f i).d), vI ((f i).a), vI ((f i).v), .bool ((f i).f), .string ((f i).s)] 31]) hH75) hR (len_w hx)).mono ?_
            rintro e w76 ⟨rfl, hb77⟩
            refine ⟨_, rfl, ?_⟩
            have hH78 : HP Tr w _ [.cel b #[vI R, .slice pv3 (wX R bs (f i).s).length cp3] 62, .own (.slice pv3 (wX R bs (f i).s).length cp3) (wX R bs (f i).s).length (bC (wX R bs (f i).s)) 5 1, .cel r #[.string (bS (wX R bs (f i).s)), vI R] 66, .cel b60 #[vI ((f i).d), vI ((f i).a), vI ((f i).v), .bool ((f i).f), .string ((f i).s)] 31] := HP.call hH75 hb77
            refine WL.pure (v := .bool false) 78 rfl (Nat.le_of_ble_eq_true rfl) rfl rfl (x_neqs rfl rfl rfl (dF (fun h => h rfl))) ?_
            refine WL.pure (v := .bool false) 79 rfl (Nat.le_of_ble_eq_true rfl) rfl rfl (by kernel_rfl) ?_
            refine WL.nil ?_
            refine WQ.then ?_
            refine hK72 _ _ _ ?_
            refine WC.sub (l' := [(1, .slice (some ⟨bb, oo, none⟩) n cap), (5, vP b 0), (7, vP r 0), (8, vI 0), (9, vI (i : Int)), (10, vP b60 0), (11, .bool true), (36, .bool true), (46, .bool false), (48, vI ((f i).d)), (49, .bool true), (79, .bool false)]) ⟨rfl, rfl, rfl, rfl, rfl, rfl, rfl, rfl, rfl, rfl, rfl, rfl, trivial⟩ ?_
            refine WC.no rfl ?_
            refine WC.skip ?_
            refine WQ.inNormal ?_
            refine WQ.then ?_
            refine hK58 _ _ _ ?_
            refine WC.region ?_
            refine WL.pure (v := vI (i : Int)) 37 rfl (Nat.le_of_ble_eq_true rfl) rfl rfl (by kernel_rfl) ?_
            refine WL.pure (v := vI ((i + 1 : Nat) : Int)) 38 rfl (Nat.le_of_ble_eq_true rfl) rfl rfl (x_add (Z := ((i + 1 : Nat) : Int)) rfl rfl rfl (by omega) (by omega) (by omega)) ?_
            refine WL.pure (v := vI ((i + 1 : Nat) : Int)) 9 rfl (Nat.le_of_ble_eq_true rfl) rfl rfl (by kernel_rfl) ?_
            refine WL.nil ?_
            refine WQ.sub (l' := [(1, .slice (some ⟨bb, oo, none⟩) n cap), (5, vP b 0), (7, vP r 0), (8, vI 0), (9, vI ((i + 1 : Nat) : Int))]) ⟨rfl, rfl, rfl, rfl, rfl, trivial⟩ ?_
            refine WQ.then (hK53 _ _ _ (by omega) ⟨i + 1, (wX R bs (f i).s), pv3, cp3, rfl, rfl, by omega, (len_w hx), (HP.drop hH78 3)⟩)
          ·
            refine WL.pure (v := .bool false) 50 rfl (Nat.le_of_ble_eq_true rfl) rfl rfl (x_eql rfl rfl rfl (dF (h1))) ?_
            refine WL.pure (v := .bool false) 49 rfl (Nat.le_of_ble_eq_true rfl) rfl rfl (by kernel_rfl) ?_
            refine WL.nil ?_
            refine WQ.then ?_
            refine hK70 _ _ _ ?_
            refine WC.no rfl ?_
            refine WC.seq fun K79 hK79 => ?_
            refine WC.region ?_
            by_cases h2 : (f i).d = 2
            ·
              refine WL.pure (v := .bool true) 61 rfl (Nat.le_of_ble_eq_true rfl) rfl rfl (x_eql rfl rfl rfl (dT (h2))) ?_
              refine WL.pure (v := .bool true) 60 rfl (Nat.le_of_ble_eq_true rfl) rfl rfl (by kernel_rfl) ?_
              refine WL.nil ?_
              refine WQ.then ?_
              refine hK79 _ _ _ ?_
              refine WC.yes rfl ?_
              refine WC.confG (γ := Option Addr × Nat) [(1, .slice (some ⟨bb, oo, none⟩) n cap), (5, vP b 0), (7, vP r 0), (8, vI 0), (9, vI (i : Int)), (10, vP b60 0), (36, .bool true), (46, .bool false), (48, vI ((f i).d)), (49, .bool false), (60, .bool true)] (fun y => [vP b 0, vP b60 1, vI (f i).a, vI (wE R bs (bS (Lib.itoa (f i).a))), vP r 0, vP b60 1, vI (f i).a, vI (wE R bs (bS (Lib.itoa (f i).a))), .bool true, .bool true]) (fun y D wz => HP Tr w wz ((bif D 3 then [Ent.cel b #[vI R, .slice y.1 (wX R bs (bS (Lib.itoa (f i).a))).length y.2] 62, Ent.own (.slice y.1 (wX R bs (bS (Lib.itoa (f i).a))).length y.2) (wX R bs (bS (Lib.itoa (f i).a))).length (bC (wX R bs (bS (Lib.itoa (f i).a)))) 5 1] else [Ent.cel b #[vI R, .slice pv bs.length cp] 62, Ent.own (.slice pv bs.length cp) bs.length (bC bs) 5 1]) ++ ((bif D 7 then [Ent.cel r #[.string (bS (wX R bs (bS (Lib.itoa (f i).a)))), vI R] 66] else [Ent.cel r #[.string (bS bs), vI R] 66]) ++ [.cel b60 #[vI ((f i).d), vI ((f i).a), vI ((f i).v), .bool ((f i).f), .string ((f i).s)] 31]))) (none, 0) (by kernel_rfl) ⟨rfl, rfl, rfl, rfl, rfl, rfl, rfl, rfl, rfl, rfl, rfl, trivial⟩ (by kernel_rfl) (by kernel_rfl) (by kernel_rfl) (fun _ => rfl) (by kernel_rfl) (HP.drew hH64) ?_ ?_
              · refine AllOk.cons ?o0 (AllOk.cons ?o1 (AllOk.cons ?o2 (AllOk.cons ?o3 (AllOk.cons ?o4 (AllOk.cons ?o5 (AllOk.cons ?o6 (AllOk.cons ?o7 (AllOk.cons ?o8 (AllOk.cons ?o9 (AllOk.nil _))))))))))
                case o0 =>
                  intro y D wz hDi hdep hclo hW
                  exact .inl ⟨rfl, rfl, .inl ⟨y, wz, fun _ _ => rfl, by kernel_rfl, hW⟩⟩
                case o1 =>
                  intro y D wz hDi hdep hclo hW
                  exact .inl ⟨rfl, rfl, .inl ⟨y, wz, fun _ _ => rfl, by kernel_rfl, hW⟩⟩
                case o2 =>
                  intro y D wz hDi hdep hclo hW
                  have hq : wz.cell? ⟨b60, 1, none⟩ = some (vI (f i).a) := by
                    cases h3 : D 3 <;> cases h7 : D 7 <;> simp only [h3, h7, cond_true, cond_false] at hW <;> exact HP.cell hW 3 rfl rfl
                  exact .inl ⟨rfl, rfl, .inl ⟨y, wz, fun _ _ => rfl, x_load rfl rfl Tryd.underlying3 rfl hq, hW⟩⟩
                case o3 =>
                  intro y D wz hDi hdep hclo hW
                  simp only [hDi, cond_false] at hW
                  refine .inl ⟨rfl, rfl, .inr (.inr ⟨9, #[vP b 0, vI (f i).a], by kernel_rfl, (WriteInt_any b R pv cp bs (f i).a _ (HP.ownF (A := [Ent.cel b #[vI R, .slice pv bs.length cp] 62, Ent.own (.slice pv bs.length cp) bs.length (bC bs) 5 1]) hW) hR hx hwf (Lib.TabBelow.here ((Lib.tabBelow_of_tabIs htab).on (HP.below hW)))).mono ?_⟩)⟩
                  rintro e w3 ⟨pv3, cp3, he, hb3⟩
                  refine ⟨(pv3, cp3), fun j hj => ?_, he, ?_⟩
                  · match j, hj with
                    | 0, hj => rfl
                    | 1, hj => rfl
                    | 2, hj => rfl
                    | 3, hj => rfl
                    | 4, hj => rfl
                    | 5, hj => rfl
                    | 6, hj => rfl
                    | 7, hj => rfl
                    | 8, hj => rfl
                    | 9, hj => rfl
                    | j + 10, _ => rfl
                  · exact HP.exchF (A := [Ent.cel b #[vI R, .slice pv bs.length cp] 62, Ent.own (.slice pv bs.length cp) bs.length (bC bs) 5 1]) hW hb3
                case o4 =>
                  intro y D wz hDi hdep hclo hW
                  exact .inl ⟨rfl, rfl, .inl ⟨y, wz, fun _ _ => rfl, by kernel_rfl, hW⟩⟩
                case o5 =>
                  intro y D wz hDi hdep hclo hW
                  exact .inl ⟨rfl, rfl, .inl ⟨y, wz, fun _ _ => rfl, by kernel_rfl, hW⟩⟩
                case o6 =>
                  intro y D wz hDi hdep hclo hW
                  have hq : wz.cell? ⟨b60, 1, none⟩ = some (vI (f i).a) := by
                    cases h3 : D 3 <;> cases h7 : D 7 <;> simp only [h3, h7, cond_true, cond_false] at hW <;> exact HP.cell hW 3 rfl rfl
                  exact .inl ⟨rfl, rfl, .inl ⟨y, wz, fun _ _ => rfl, x_load rfl rfl Tryd.underlying3 rfl hq, hW⟩⟩
                case o7 =>
                  intro y D wz hDi hdep hclo hW
                  simp only [hDi, cond_false] at hW
                  refine .inl ⟨rfl, rfl, .inr (.inr ⟨10, #[vP r 0, vI (f i).a], by kernel_rfl, (rWriteInt_any r R bs (f i).a _ (HP.ownM (R := [Ent.cel r #[.string (bS bs), vI R] 66]) hW) hR hx hwf (Lib.TabBelow.here ((Lib.tabBelow_of_tabIs htab).on (HP.below hW)))).mono ?_⟩)⟩
                  rintro e w3 ⟨he, hb3⟩
                  refine ⟨y, fun j hj => rfl, he, ?_⟩
                  exact HP.exchM (R := [Ent.cel r #[.string (bS bs), vI R] 66]) hW hb3
                case o8 =>
                  intro y D wz hDi hdep hclo hW
                  exact .inl ⟨rfl, rfl, .inl ⟨y, wz, fun _ _ => rfl, x_eql rfl rfl rfl (dT rfl), hW⟩⟩
                case o9 =>
                  intro y D wz hDi hdep hclo hW
                  exact .inl ⟨rfl, rfl, .inl ⟨y, wz, fun _ _ => rfl, by kernel_rfl, hW⟩⟩
              rintro ⟨pv3, cp3⟩ D w9 hall hW
              simp only [hall 3 (by kernel_rfl), hall 7 (by kernel_rfl), cond_true] at hW
              clear hall
              refine WQ.sub (l' := [(1, .slice (some ⟨bb, oo, none⟩) n cap), (5, vP b 0), (7, vP r 0), (8, vI 0), (9, vI (i : Int)), (10, vP b60 0), (11, .bool true), (36, .bool true), (46, .bool false), (48, vI ((f i).d)), (49, .bool false), (60, .bool true)]) ⟨rfl, rfl, rfl, rfl, rfl, rfl, rfl, rfl, rfl, rfl, rfl, rfl, trivial⟩ ?_
              have hH80 : HP Tr w _ [.cel b #[vI R, .slice pv3 (wX R bs (bS (Lib.itoa (f i).a))).length cp3] 62, .own (.slice pv3 (wX R bs (bS (Lib.itoa (f i).a))).length cp3) (wX R bs (bS (Lib.itoa (f i).a))).length (bC (wX R bs (bS (Lib.itoa (f i).a)))) 5 1, .cel r #[.string (bS (wX R bs (bS (Lib.itoa (f i).a)))), vI R] 66, .cel b60 #[vI ((f i).d), vI ((f i).a), vI ((f i).v), .bool ((f i).f), .string ((f i).s)] 31] := hW
              refine WQ.inNormal ?_
              refine WQ.then ?_
              refine hK68 _ _ _ ?_
              refine WC.seq fun K81 hK81 => ?_
              refine WC.region ?_
              refine WL.pure (v := .bool true) 71 rfl (Nat.le_of_ble_eq_true rfl) rfl rfl (by kernel_rfl) ?_
              refine WL.pure (v := .bool false) 72 rfl (Nat.le_of_ble_eq_true rfl) rfl rfl (by kernel_rfl) ?_
              refine WL.pure (v := .bool false) 73 rfl (Nat.le_of_ble_eq_true rfl) rfl rfl (by kernel_rfl) ?_
              refine WL.pure (v := vP b 0) 74 rfl (Nat.le_of_ble_eq_true rfl) rfl rfl (by kernel_rfl) ?_
              refine WL.call (f := 11) (args := #[vP b 0]) 75 rfl (Nat.le_of_ble_eq_true rfl) rfl rfl (by kernel_rfl) ?_
              refine (Text_any b R pv3 cp3 (wX R bs (bS (Lib.itoa (f i).a))) _ (HP.ownF (A := [.cel b #[vI R, .slice pv3 (wX R bs (bS (Lib.itoa (f i).a))).length cp3] 62, .own (.slice pv3 (wX R bs (bS (Lib.itoa (f i).a))).length cp3) (wX R bs (bS (Lib.itoa (f i).a))).length (bC (wX R bs (bS (Lib.itoa (f i).a)))) 5 1]) (B := [.cel r #[.string (bS (wX R bs (bS (Lib.itoa (f i).a)))), vI R] 66, .cel b60 #[vI ((f i).d), vI ((f i).a), vI ((f i).v), .bool ((f i).f), .string ((f i).s)] 31]) hH80) hR (len_w hx)).mono ?_
              rintro e w82 ⟨rfl, hb83⟩
              refine ⟨_, rfl, ?_⟩
              have hH84 : HP Tr w _ [.cel b #[vI R, .slice pv3 (wX R bs (bS (Lib.itoa (f i).a))).length cp3] 62, .own (.slice pv3 (wX R bs (bS (Lib.itoa (f i).a))).length cp3) (wX R bs (bS (Lib.itoa (f i).a))).length (bC (wX R bs (bS (Lib.itoa (f i).a)))) 5 1, .cel r #[.string (bS (wX R bs (bS (Lib.itoa (f i).a)))), vI R] 66, .cel b60 #[vI ((f i).d), vI ((f i).a), vI ((f i).v), .bool ((f i).f), .string ((f i).s)] 31] := HP.call hH80 hb83
              refine WL.pure (v := vP r 0) 76 rfl (Nat.le_of_ble_eq_true rfl) rfl rfl (by kernel_rfl) ?_
              refine WL.call (f := 12) (args := #[vP r 0]) 77 rfl (Nat.le_of_ble_eq_true rfl) rfl rfl (by kernel_rfl) ?_
              refine (rText_any r R (wX R bs (bS (Lib.itoa (f i).a))) _ (HP.ownM (A := [.cel b #[vI R, .slice pv3 (wX R bs (bS (Lib.itoa (f i).a))).length cp3] 62, .own (.slice pv3 (wX R bs (bS (Lib.itoa (f i).a))).length cp3) (wX R bs (bS (Lib.itoa (f i).a))).length (bC (wX R bs (bS (Lib.itoa (f i).a)))) 5 1]) (R := [.cel r #[.string (bS (wX R bs (bS (Lib.itoa (f i).a)))), vI R] 66]) (C := [.cel b60 #[vI ((f i).d), vI ((f i).a), vI ((f i).v), .bool ((f i).f), .string ((f i).s)] 31]) hH84) hR (len_w hx)).mono ?_
              rintro e w85 ⟨rfl, hb86⟩
              refine ⟨_, rfl, ?_⟩
              have hH87 : HP Tr w _ [.cel b #[vI R, .slice pv3 (wX R bs (bS (Lib.itoa (f i).a))).length cp3] 62, .own (.slice pv3 (wX R bs (bS (Lib.itoa (f i).a))).length cp3) (wX R bs (bS (Lib.itoa (f i).a))).length (bC (wX R bs (bS (Lib.itoa (f i).a)))) 5 1, .cel r #[.string (bS (wX R bs (bS (Lib.itoa (f i).a)))), vI R] 66, .cel b60 #[vI ((f i).d), vI ((f i).a), vI ((f i).v), .bool ((f i).f), .string ((f i).s)] 31] := HP.call hH84 hb86
              refine WL.pure (v := .bool false) 78 rfl (Nat.le_of_ble_eq_true rfl) rfl rfl (x_neqs rfl rfl rfl (dF (fun h => h rfl))) ?_
              refine WL.pure (v := .bool false) 79 rfl (Nat.le_of_ble_eq_true rfl) rfl rfl (by kernel_rfl) ?_
              refine WL.nil ?_
              refine WQ.then ?_
              refine hK81 _ _ _ ?_
              refine WC.sub (l' := [(1, .slice (some ⟨bb, oo, none⟩) n cap), (5, vP b 0), (7, vP r 0), (8, vI 0), (9, vI (i : Int)), (10, vP b60 0), (11, .bool true), (36, .bool true), (46, .bool false), (48, vI ((f i).d)), (49, .bool false), (60, .bool true), (79, .bool false)]) ⟨rfl, rfl, rfl, rfl, rfl, rfl, rfl, rfl, rfl, rfl, rfl, rfl, rfl, trivial⟩ ?_
              refine WC.no rfl ?_
              refine WC.skip ?_
              refine WQ.inNormal ?_
              refine WQ.then ?_
              refine hK58 _ _ _ ?_
              refine WC.region ?_
              refine WL.pure (v := vI (i : Int)) 37 rfl (Nat.le_of_ble_eq_true rfl) rfl rfl (by kernel_rfl) ?_
              refine WL.pure (v := vI ((i + 1 : Nat) : Int)) 38 rfl (Nat.le_of_ble_eq_true rfl) rfl rfl (x_add (Z := ((i + 1 : Nat) : Int)) rfl rfl rfl (by omega) (by omega) (by omega)) ?_
              refine WL.pure (v := vI ((i + 1 : Nat) : Int)) 9 rfl (Nat.le_of_ble_eq_true rfl) rfl rfl (by kernel_rfl) ?_
              refine WL.nil ?_
              refine WQ.sub (l' := [(1, .slice (some ⟨bb, oo, none⟩) n cap), (5, vP b 0), (7, vP r 0), (8, vI 0), (9, vI ((i + 1 : Nat) : Int))]) ⟨rfl, rfl, rfl, rfl, rfl, trivial⟩ ?_
              refine WQ.then (hK53 _ _ _ (by omega) ⟨i + 1, (wX R bs (bS (Lib.itoa (f i).a))), pv3, cp3, rfl, rfl, by omega, (len_w hx), (HP.drop hH87 3)⟩)
            ·
              refine WL.pure (v := .bool false) 61 rfl (Nat.le_of_ble_eq_true rfl) rfl rfl (x_eql rfl rfl rfl (dF (h2))) ?_
              refine WL.pure (v := .bool false) 60 rfl (Nat.le_of_ble_eq_true rfl) rfl rfl (by kernel_rfl) ?_
              refine WL.nil ?_
              refine WQ.then ?_
              refine hK79 _ _ _ ?_
              refine WC.no rfl ?_
              refine WC.skip ?_
              refine WQ.inNormal ?_
              refine WQ.then ?_
              refine hK68 _ _ _ ?_
              refine WC.seq fun K88 hK88 => ?_
              refine WC.region ?_
              refine WL.pure (v := .bool true) 71 rfl (Nat.le_of_ble_eq_true rfl) rfl rfl (by kernel_rfl) ?_
              refine WL.pure (v := .bool false) 72 rfl (Nat.le_of_ble_eq_true rfl) rfl rfl (by kernel_rfl) ?_
              refine WL.pure (v := .bool false) 73 rfl (Nat.le_of_ble_eq_true rfl) rfl rfl (by kernel_rfl) ?_
              refine WL.pure (v := vP b 0) 74 rfl (Nat.le_of_ble_eq_true rfl) rfl rfl (by kernel_rfl) ?_
              refine WL.call (f := 11) (args := #[vP b 0]) 75 rfl (Nat.le_of_ble_eq_true rfl) rfl rfl (by kernel_rfl) ?_
              refine (Text_any b R pv cp bs _ (HP.ownF (A := [.cel b #[vI R, .slice pv bs.length cp] 62, .own (.slice pv bs.length cp) bs.length (bC bs) 5 1]) (B := [.cel r #[.string (bS bs), vI R] 66, .cel b60 #[vI ((f i).d), vI ((f i).a), vI ((f i).v), .bool ((f i).f), .string ((f i).s)] 31]) hH64) hR hx).mono ?_
              rintro e w89 ⟨rfl, hb90⟩
              refine ⟨_, rfl, ?_⟩
              have hH91 : HP Tr w _ [.cel b #[vI R, .slice pv bs.length cp] 62, .own (.slice pv bs.length cp) bs.length (bC bs) 5 1, .cel r #[.string (bS bs), vI R] 66, .cel b60 #[vI ((f i).d), vI ((f i).a), vI ((f i).v), .bool ((f i).f), .string ((f i).s)] 31] := HP.call hH64 hb90
              refine WL.pure (v := vP r 0) 76 rfl (Nat.le_of_ble_eq_true rfl) rfl rfl (by kernel_rfl) ?_
              refine WL.call (f := 12) (args := #[vP r 0]) 77 rfl (Nat.le_of_ble_eq_true rfl) rfl rfl (by kernel_rfl) ?_
              refine (rText_any r R bs _ (HP.ownM (A := [.cel b #[vI R, .slice pv bs.length cp] 62, .own (.slice pv bs.length cp) bs.length (bC bs) 5 1]) (R := [.cel r #[.string (bS bs), vI R] 66]) (C := [.cel b60 #[vI ((f i).d), vI ((f i).a), vI ((f i).v), .bool ((f i).f), .string ((f i).s)] 31]) hH91) hR hx).mono ?_
              rintro e w92 ⟨rfl, hb93⟩
              refine ⟨_, rfl, ?_⟩
              have hH94 : HP Tr w _ [.cel b #[vI R, .slice pv bs.length cp] 62, .own (.slice pv bs.length cp) bs.length (bC bs) 5 1, .cel r #[.string (bS bs), vI R] 66, .cel b60 #[vI ((f i).d), vI ((f i).a), vI ((f i).v), .bool ((f i).f), .string ((f i).s)] 31] := HP.call hH91 hb93
              refine WL.pure (v := .bool false) 78 rfl (Nat.le_of_ble_eq_true rfl) rfl rfl (x_neqs rfl rfl rfl (dF (fun h => h rfl))) ?_
              refine WL.pure (v := .bool false) 79 rfl (Nat.le_of_ble_eq_true rfl) rfl rfl (by kernel_rfl) ?_
              refine WL.nil ?_
              refine WQ.then ?_
              refine hK88 _ _ _ ?_
              refine WC.sub (l' := [(1, .slice (some ⟨bb, oo, none⟩) n cap), (5, vP b 0), (7, vP r 0), (8, vI 0), (9, vI (i : Int)), (10, vP b60 0), (11, .bool true), (36, .bool true), (46, .bool false), (48, vI ((f i).d)), (49, .bool false), (60, .bool false), (79, .bool false)]) ⟨rfl, rfl, rfl, rfl, rfl, rfl, rfl, rfl, rfl, rfl, rfl, rfl, rfl, trivial⟩ ?_
              refine WC.no rfl ?_
              refine WC.skip ?_
              refine WQ.inNormal ?_
              refine WQ.then ?_
              refine hK58 _ _ _ ?_
              refine WC.region ?_
              refine WL.pure (v := vI (i : Int)) 37 rfl (Nat.le_of_ble_eq_true rfl) rfl rfl (by kernel_rfl) ?_
              refine WL.pure (v := vI ((i + 1 : Nat) : Int)) 38 rfl (Nat.le_of_ble_eq_true rfl) rfl rfl (x_add (Z := ((i + 1 : Nat) : Int)) rfl rfl rfl (by omega) (by omega) (by omega)) ?_
              refine WL.pure (v := vI ((i + 1 : Nat) : Int)) 9 rfl (Nat.le_of_ble_eq_true rfl) rfl rfl (by kernel_rfl) ?_
              refine WL.nil ?_
              refine WQ.sub (l' := [(1, .slice (some ⟨bb, oo, none⟩) n cap), (5, vP b 0), (7, vP r 0), (8, vI 0), (9, vI ((i + 1 : Nat) : Int))]) ⟨rfl, rfl, rfl, rfl, rfl, trivial⟩ ?_
              refine WQ.then (hK53 _ _ _ (by omega) ⟨i + 1, bs, pv, cp, rfl, rfl, by omega, hx, (HP.drop hH94 3)⟩)
      ·
        refine WL.pure (v := .bool false) 31 rfl (Nat.le_of_ble_eq_true rfl) rfl rfl (x_lss rfl rfl rfl (dF (h120))) ?_
        refine WL.pure (v := .bool false) 32 rfl (Nat.le_of_ble_eq_true rfl) rfl rfl (by kernel_rfl) ?_
        refine WL.pure (v := .bool false) 33 rfl (Nat.le_of_ble_eq_true rfl) rfl rfl (by kernel_rfl) ?_
        refine WL.pass 34 rfl (Nat.le_of_ble_eq_true rfl) rfl ?_
        refine WL.pass 35 rfl (Nat.le_of_ble_eq_true rfl) rfl ?_
        refine WL.pure (v := .bool false) 36 rfl (Nat.le_of_ble_eq_true rfl) rfl rfl (by kernel_rfl) ?_
        refine WL.nil ?_
        refine WQ.then ?_
        refine hK57 _ _ _ ?_
        refine WC.sub (l' := [(1, .slice p n cap), (5, vP b 0), (7, vP r 0), (8, vI 0), (9, vI (i : Int)), (36, .bool false)]) ⟨rfl, rfl, rfl, rfl, rfl, rfl, trivial⟩ ?_
        refine WC.no rfl ?_
        refine WC.exit ?_
        refine WQ.thenExit ?_
        refine WQ.thenExit ?_
        refine WQ.inExit ?_
        refine WQ.then ?_
        refine hK51 _ _ _ ?_
        refine WC.seq fun K95 hK95 => ?_
        refine WC.region ?_
        refine WL.pure (v := vP b 0) 80 rfl (Nat.le_of_ble_eq_true rfl) rfl rfl (by kernel_rfl) ?_
        refine WL.call (f := 11) (args := #[vP b 0]) 81 rfl (Nat.le_of_ble_eq_true rfl) rfl rfl (by kernel_rfl) ?_
        refine (Text_any b R pv cp bs _ (HP.ownF (A := [.cel b #[vI R, .slice pv bs.length cp] 62, .own (.slice pv bs.length cp) bs.length (bC bs) 5 1]) (B := [.cel r #[.string (bS bs), vI R] 66]) hH55) hR hx).mono ?_
        rintro e w96 ⟨rfl, hb97⟩
        refine ⟨_, rfl, ?_⟩
        have hH98 : HP Tr w _ [.cel b #[vI R, .slice pv bs.length cp] 62, .own (.slice pv bs.length cp) bs.length (bC bs) 5 1, .cel r #[.string (bS bs), vI R] 66] := HP.call hH55 hb97
        refine WL.pure (v := vP r 0) 82 rfl (Nat.le_of_ble_eq_true rfl) rfl rfl (by kernel_rfl) ?_
        refine WL.call (f := 12) (args := #[vP r 0]) 83 rfl (Nat.le_of_ble_eq_true rfl) rfl rfl (by kernel_rfl) ?_
        refine (rText_any r R bs _ (HP.ownM (A := [.cel b #[vI R, .slice pv bs.length cp] 62, .own (.slice pv bs.length cp) bs.length (bC bs) 5 1]) (R := [.cel r #[.string (bS bs), vI R] 66]) (C := []) hH98) hR hx).mono ?_
        rintro e w99 ⟨rfl, hb100⟩
        refine ⟨_, rfl, ?_⟩
        have hH101 : HP Tr w _ [.cel b #[vI R, .slice pv bs.length cp] 62, .own (.slice pv bs.length cp) bs.length (bC bs) 5 1, .cel r #[.string (bS bs), vI R] 66] := HP.call hH98 hb100
        refine WL.pure (v := .bool true) 84 rfl (Nat.le_of_ble_eq_true rfl) rfl rfl (x_eqls rfl rfl rfl (dT rfl)) ?_
        refine WL.pure (v := .bool true) 85 rfl (Nat.le_of_ble_eq_true rfl) rfl rfl (by kernel_rfl) ?_
        refine WL.call (f := 13) (args := #[]) 86 rfl (Nat.le_of_ble_eq_true rfl) rfl rfl (by kernel_rfl) ?_
        refine (Lc.sane_any _).mono ?_
        rintro e w102 ⟨rfl, hb103⟩
        refine ⟨_, rfl, ?_⟩
        have hH104 : HP Tr w _ [.cel b #[vI R, .slice pv bs.length cp] 62, .own (.slice pv bs.length cp) bs.length (bC bs) 5 1, .cel r #[.string (bS bs), vI R] 66] := HP.call hH101 hb103
        refine WL.pure (v := .bool true) 87 rfl (Nat.le_of_ble_eq_true rfl) rfl rfl (by kernel_rfl) ?_
        refine WL.pure (v := .bool true) 4 rfl (Nat.le_of_ble_eq_true rfl) rfl rfl (by kernel_rfl) ?_
        refine WL.nil ?_
        refine WQ.then ?_
        refine hK95 _ _ _ ?_
        refine WC.sub (l' := [(1, .slice p n cap), (4, .bool true), (5, vP b 0), (7, vP r 0), (8, vI 0), (9, vI (i : Int)), (36, .bool false)]) ⟨rfl, rfl, rfl, rfl, rfl, rfl, rfl, trivial⟩ ?_
        refine WC.ret ?_
        refine WQ.ret1 4 rfl rfl ?_
        exact ⟨rfl, HP.below hH104⟩
    ·
      refine WL.pure (v := .bool false) 28 rfl (Nat.le_of_ble_eq_true rfl) rfl rfl (x_lss rfl rfl rfl (dF (hlt))) ?_
      refine WL.pure (v := .bool false) 29 rfl (Nat.le_of_ble_eq_true rfl) rfl rfl (by kernel_rfl) ?_
      refine WL.pass 30 rfl (Nat.le_of_ble_eq_true rfl) rfl ?_
      refine WL.pass 31 rfl (Nat.le_of_ble_eq_true rfl) rfl ?_
      refine WL.pure (v := .bool false) 32 rfl (Nat.le_of_ble_eq_true rfl) rfl rfl (by kernel_rfl) ?_
      refine WL.pure (v := .bool false) 33 rfl (Nat.le_of_ble_eq_true rfl) rfl rfl (by kernel_rfl) ?_
      refine WL.pass 34 rfl (Nat.le_of_ble_eq_true rfl) rfl ?_
      refine WL.pass 35 rfl (Nat.le_of_ble_eq_true rfl) rfl ?_
      refine WL.pure (v := .bool false) 36 rfl (Nat.le_of_ble_eq_true rfl) rfl rfl (by kernel_rfl) ?_
      refine WL.nil ?_
      refine WQ.then ?_
      refine hK57 _ _ _ ?_
      refine WC.sub (l' := [(1, .slice p n cap), (5, vP b 0), (7, vP r 0), (8, vI 0), (9, vI (i : Int)), (36, .bool false)]) ⟨rfl, rfl, rfl, rfl, rfl, rfl, trivial⟩ ?_
      refine WC.no rfl ?_
      refine WC.exit ?_
      refine WQ.thenExit ?_
      refine WQ.thenExit ?_
      refine WQ.inExit ?_
      refine WQ.then ?_
      refine hK51 _ _ _ ?_
      refine WC.seq fun K105 hK105 => ?_
      refine WC.region ?_
      refine WL.pure (v := vP b 0) 80 rfl (Nat.le_of_ble_eq_true rfl) rfl rfl (by kernel_rfl) ?_
      refine WL.call (f := 11) (args := #[vP b 0]) 81 rfl (Nat.le_of_ble_eq_true rfl) rfl rfl (by kernel_rfl) ?_
      refine (Text_any b R pv cp bs _ (HP.ownF (A := [.cel b #[vI R, .slice pv bs.length cp] 62, .own (.slice pv bs.length cp) bs.length (bC bs) 5 1]) (B := [.cel r #[.string (bS bs), vI R] 66]) hH55) hR hx).mono ?_
      rintro e w106 ⟨rfl, hb107⟩
      refine ⟨_, rfl, ?_⟩
      have hH108 : HP Tr w _ [.cel b #[vI R, .slice pv bs.length cp] 62, .own (.slice pv bs.length cp) bs.length (bC bs) 5 1, .cel r #[.string (bS bs), vI R] 66] := HP.call hH55 hb107
      refine WL.pure (v := vP r 0) 82 rfl (Nat.le_of_ble_eq_true rfl) rfl rfl (by kernel_rfl) ?_
      refine WL.call (f := 12) (args := #[vP r 0]) 83 rfl (Nat.le_of_ble_eq_true rfl) rfl rfl (by kernel_rfl) ?_
      refine (rText_any r R bs _ (HP.ownM (A := [.cel b #[vI R, .slice pv bs.length cp] 62, .own (.slice pv bs.length cp) bs.length (bC bs) 5 1]) (R := [.cel r #[.string (bS bs), vI R] 66]) (C := []) hH108) hR hx).mono ?_
      rintro e w109 ⟨rfl, hb110⟩
      refine ⟨_, rfl, ?_⟩
      have hH111 : HP Tr w _ [.cel b #[vI R, .slice pv bs.length cp] 62, .own (.slice pv bs.length cp) bs.length (bC bs) 5 1, .cel r #[.string (bS bs), vI R] 66] := HP.call hH108 hb110
      refine WL.pure (v := .bool true) 84 rfl (Nat.le_of_ble_eq_true rfl) rfl rfl (x_eqls rfl rfl rfl (dT rfl)) ?_
      refine WL.pure (v := .bool true) 85 rfl (Nat.le_of_ble_eq_true rfl) rfl rfl (by kernel_rfl) ?_
      refine WL.call (f := 13) (args := #[]) 86 rfl (Nat.le_of_ble_eq_true rfl) rfl rfl (by kernel_rfl) ?_
      refine (Lc.sane_any _).mono ?_
      rintro e w112 ⟨rfl, hb113⟩
      refine ⟨_, rfl, ?_⟩
      have hH114 : HP Tr w _ [.cel b #[vI R, .slice pv bs.length cp] 62, .own (.slice pv bs.length cp) bs.length (bC bs) 5 1, .cel r #[.string (bS bs), vI R] 66] := HP.call hH111 hb113
      refine WL.pure (v := .bool true) 87 rfl (Nat.le_of_ble_eq_true rfl) rfl rfl (by kernel_rfl) ?_
      refine WL.pure (v := .bool true) 4 rfl (Nat.le_of_ble_eq_true rfl) rfl rfl (by kernel_rfl) ?_
      refine WL.nil ?_
      refine WQ.then ?_
      refine hK105 _ _ _ ?_
      refine WC.sub (l' := [(1, .slice p n cap), (4, .bool true), (5, vP b 0), (7, vP r 0), (8, vI 0), (9, vI (i : Int)), (36, .bool false)]) ⟨rfl, rfl, rfl, rfl, rfl, rfl, rfl, trivial⟩ ?_
      refine WC.ret ?_
      refine WQ.ret1 4 rfl rfl ?_
      exact ⟨rfl, HP.below hH114⟩

theorem own : ownKnob Tryd.prog.godebug = none := by kernel_rfl
theorem laidOut : laidOutB Tryd.prog = true := by kernel_rfl
theorem door_met (os : Os) (args : Array Value) : laidMetH Tryd.prog Rows.libWritesRow.laid ((World.doorLaid Tryd.prog 24 os).forCall (fun _ _ => 0) ⟨#[], args, []⟩).memory :=
  laidMetH_of_parts3 (fuel := 8) (laidMet_of_run' 8 (by kernel_rfl) (by kernel_rfl)) (by kernel_rfl) (by kernel_rfl)
theorem tab0 {W : World} (h : laidMetH Tryd.prog Rows.libWritesRow.laid W) : Lib.TabIs Tryd.prog W "internal/strconv.uint64pow10" .u64 Lib.pow10Tab := by
  rw [MakeChecks.laidMetH_plain _ _ _ (by kernel_rfl)] at h
  exact Lib.tabIs_of_head (g := 0) (by kernel_rfl) (by kernel_rfl) Tryd.underlying92 Tryd.underlying85 (by kernel_rfl) (by kernel_rfl) (show laidMet Tryd.prog (("internal/strconv.uint64pow10", Lib.tabData .u64 Lib.pow10Tab) :: _) W from h.tail.tail)
set_option maxRecDepth 100000 in
theorem lifted (os : Os) (started : os.Started) (H : Type) (enc : TypeId × Value → H) :
    ReturnsInHanded {} Tryd.checked os 3 .any (fun w args => (Rows.libWritesSpec.pre enc Tryd.prog Tryd.f3 Rows.libWritesRow.domain false w args ∧ laidMetH Tryd.prog Rows.libWritesRow.laid w) ∧ sizedMet enc Tryd.prog Tryd.f3 (OpenSpec.ofChange Rows.libWritesSpec) false w args) (Rows.libWritesSpec.post enc Tryd.prog Tryd.f3 false true false false) := by
  refine returnsInHanded_of_change_and (C := Tryd.checked) (X := fun w _ => laidMetH Tryd.prog Rows.libWritesRow.laid w) (fun _ _ _ hh h => h.of_heap hh) own started (by kernel_rfl) Tryd.func3
    (ChangeSpec.witness_shaped (enc := enc) (C := Tryd.checked) (os := os) (X := fun w _ => laidMetH Tryd.prog Rows.libWritesRow.laid w) false (World.doorLaid Tryd.prog 24 os) #[.int .i64 0, .slice none 0 0] 8 rfl (World.shaped_of_RefB (by kernel_rfl) (by kernel_rfl)) (by kernel_rfl) (by kernel_rfl) (by kernel_rfl) (door_met os _)) ?_
  intro W base args ds gs before hval0 hW _ _ hL _
  have hval : ∀ (j : Nat) t v, Tryd.f3.params[j]? = some t → args[j]? = some v → Value.okWide Tryd.prog W .any base t v := hval0
  have hW' := hW
  obtain ⟨p, q, hA0, hV, rfl, hfz, hnd⟩ := hW
  have hA : DataW.TrodAll enc Tryd.prog W 0 (fun _ => true) true Tryd.f3.params.toList args.toList ds p := hA0
  rw [Tryd.params3] at hA hval
  obtain ⟨v0, vs0, d0, ds0, p0, q0, hargs, rfl, rfl, h0, r0⟩ := trodAll_cons hA
  obtain ⟨v1, vs1, d1, ds1, p1, q1, rfl, rfl, rfl, h1, r1⟩ := trodAll_cons r0
  obtain ⟨rfl, rfl, rfl⟩ := trodAll_nil r1
  obtain rfl : args = #[v0, v1] := by cases args; simp_all
  obtain ⟨rfl, rfl⟩ := trodVars_none hV
  obtain ⟨a0, rfl, rfl, rfl, w0⟩ := open_int Tryd.underlying3 (hval 0 3 v0 rfl rfl) h0
  have k1 := h1
  have lt1 : ∀ x ∈ p1, x.block < W.heap.size := by obtain ⟨m, hm⟩ := k1; exact DataW.trod_lt m _ _ _ hm
  obtain ⟨b1, n1, cap1, rfl⟩ := okWide_slice Tryd.underlying22 (hval 1 22 v1 rfl rfl)
  obtain ⟨f1, hrow1⟩ := Lc.rows5 h1 lt1
  clear hA0 hval0
  refine (walk a0 b1 n1 cap1 f1 W w0 hrow1 (tab0 hL)).mono fun e W' ⟨he, bel⟩ => ?_
  subst he
  exact ⟨_, rfl, _, _, _, [], _, [], hW', trodAll_mk1 (shut_bool Tryd.underlying4 _), (trodAll_cons_mk (shut_int Tryd.underlying3 w0) (trodAll_cons_mk (Below.trod laidOut (by kernel_rfl) (of_decide_eq_true (by kernel_rfl)) k1 bel lt1) trodAll_mk0)), rfl, bel.frame _, fun h => by cases h⟩

theorem over : Rows.libWritesRow.holds Tryd.pinned (OpenSpec.ofChange Rows.libWritesSpec) :=
  OpenClaim.holds_of_wide 3 Tryd.f3 rfl rfl rfl rfl rfl rfl rfl ⟨rfl, rfl, rfl, rfl, rfl⟩ rfl rfl rfl rfl rfl (by kernel_rfl) Tryd.func3 (by kernel_rfl)
    (of_decide_eq_true (by kernel_rfl)) (by unfold Func.isWrapper; first | (rw [if_pos (by decide +kernel)]; kernel_rfl) | (rw [if_neg (by decide +kernel)]; exact ⟨rfl, rfl⟩))
    (fun os started H enc _ => lifted os started H enc)
/-- the statement: the tied card -/
theorem proved : Rows.LibWritesCardSaid :=
  Claim7.holds_tied_plain_at .later [] [.data, .data, .data] true (true, "d88973e279687da712ee0e8d479af8c530e3cec3286b634eef94961d527e4c2c") false
    over (fun _ h => by cases h) (by kernel_rfl) (fun _ h => by cases h) libWrites_row_tie rfl ⟨rfl, rfl⟩ (by kernel_rfl) rfl
    (fun f fn hf hfn => by
      obtain rfl : f = 3 := Option.some.inj ((show Tryd.prog.funcNamed Rows.libWritesRow.func = some 3 by kernel_rfl).symm.trans hf) |>.symm
      obtain rfl : fn = Tryd.f3 := (Option.some.inj (Tryd.func3.symm.trans hfn)).symm
      exact ⟨by kernel_rfl, fun j t ht => by
        rw [Tryd.params3] at ht
        have hm : t ∈ [3, 22] := by simpa using Array.mem_of_getElem? ht
        have hall : ([3, 22].all fun u => !Tryd.prog.wantsStandIn u) = true := by kernel_rfl
        exact (show Tryd.prog.wantsStandIn t = false by simpa using List.all_eq_true.1 hall t hm)⟩)
    (by kernel_rfl)
end Go.Proofs.YtgdfbpphfanocaaDoor.libWrites
