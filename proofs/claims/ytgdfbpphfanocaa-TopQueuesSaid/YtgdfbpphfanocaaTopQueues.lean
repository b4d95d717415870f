/-
  The statement TopQueues: for every size, puts, takes and schedule the law returns true.
  Conditions: none beyond those of the given row.
-/
import Derived.Test.YtgdfbpphfanocaaRows
import Derived.Test.YtgdfbpphfanocaaHZ
import Derived.ProofKit
import Derived.OpenShut
import Derived.ShutString
import Derived.ChangeOld
import Derived.Lib.SmallJoins
set_option linter.unusedVariables false
set_option linter.unusedSimpArgs false
namespace Go.Proofs.Ytgdfbpphfanocaa.topQueues
open Go.ChangeShapes Go.WideShapes Go.ChangeAt Go.RowKit Go.Joins
open Go.ChangeMaps (open_string shut_string)
open Fw Qp Qu Lb

theorem sz3 : (Try.prog.info? 3).map (·.size) = some 1 := by kernel_rfl
theorem sz4 : (Try.prog.info? 4).map (·.size) = some 1 := by kernel_rfl
theorem rowB_open {w : World} {pv : Option Addr} {n cp : Nat} {B : List Bool} (h : Ent.holds w (rowB pv n cp B)) (h0 : 0 < n) : ∃ g, pv = some ⟨g, 0, none⟩ := by
  have h2 : w.ownsRow 0 4 1 (.slice pv n cp) n (bL B) := h
  rcases h2.2 with ⟨h3, h1⟩ | ⟨g, cap, cur, hv, _⟩
  · cases h3; omega
  · cases hv; exact ⟨g, rfl⟩
theorem ownB {w : World} {g i n cp : Nat} {B : List Bool} (h : Ent.holds w (rowB (some ⟨g, 0, none⟩) n cp B)) (hi : i < B.length) : w.cell? ⟨g, i, none⟩ = some (.bool (B.getD i false)) := by
  have q := World.ownsRow.cells h (g := g) rfl i (.bool (B.getD i false)) (by simp [bL, List.getD_eq_getElem?_getD, hi])
  rwa [ad_add, Nat.zero_add] at q
theorem ownI {w : World} {g i n cp : Nat} {xs : List Int} (h : Ent.holds w (row (some ⟨g, 0, none⟩) n cp xs)) (hi : i < xs.length) : w.cell? ⟨g, i, none⟩ = some (vI (xs.getD i 0)) := by
  have q := World.ownsRow.cells h (g := g) rfl i (vI (xs.getD i 0)) (by simp [iL, List.getD_eq_getElem?_getD, hi])
  rwa [ad_add, Nat.zero_add] at q
theorem row_open1 {w : World} {pv : Option Addr} {n cp : Nat} {xs : List Int} (h : Ent.holds w (row pv n cp xs)) (h0 : 0 < n) : ∃ g, pv = some ⟨g, 0, none⟩ := by
  obtain ⟨g, hg, -⟩ := Lb.row_open h h0
  exact ⟨g, hg⟩
theorem sent_take {B : List Bool} {P : List Int} {i : Nat} {v : Bool} (hi : i < B.length) (hP : B.length ≤ P.length) (hv : B.getD i false = v) : sent (B.take (i + 1)) P = sent (B.take i) P ++ (if v then [P.getD i 0] else []) := by
  have e : B.take (i + 1) = B.take i ++ [v] := by rw [List.take_add_one, ← hv]; simp [List.getD_eq_getElem?_getD, hi]
  rw [e, sent_append (B.take i) P v (by simp; omega)]
  simp [show min i B.length = i by omega]
theorem sent_len {B : List Bool} {P : List Int} : (sent B P).length ≤ B.length := by
  induction B generalizing P with
  | nil => simp [sent]
  | cons c B ih =>
    cases P with
    | nil => simp [sent]
    | cons x P => have := ih (P := P); cases c <;> simp [sent] <;> omega
set_option maxRecDepth 20000 in
set_option maxHeartbeats 4000000 in
theorem walk (M : Int) (p : Option Addr) (cp : Nat) (P : List Int) (K : Int) (q0 : Option Addr) (cq : Nat) (sc : List Int) (w : World) (hM : (Lit.int .i64 M).wf = true) (hPc : P.length ≤ cp) (hP : InI w p P) (hPw : ∀ x ∈ P, Wi x) (hK : (Lit.int .i64 K).wf = true) (hScc : sc.length ≤ cq) (hSc : InI w q0 sc) (hScw : ∀ x ∈ sc, Wi x) :
    Calls Try.prog 9 #[vI M, .slice p P.length cp, vI K, .slice q0 sc.length cq] w fun e w' => e = .returned (.bool true) ∧ Below w.heap.size w w' := by
  refine calls_of Try.func9 rfl (m := 133) rfl [(0, vI M), (1, .slice p P.length cp), (2, vI K), (3, .slice q0 sc.length cq)] (Fr_enter [vI M, .slice p P.length cp, vI K, .slice q0 sc.length cq] 133 (Nat.le_of_ble_eq_true rfl)) ?_
  have hH1 : HP Tr w w [] := HP.refl w
  refine WC.seq fun K2 hK2 => ?_
  refine WC.region ?_
  refine WL.pure (v := .bool false) 8 rfl (Nat.le_of_ble_eq_true rfl) rfl rfl (by kernel_rfl) ?_
  refine WL.nil ?_
  refine WQ.then ?_
  refine hK2 _ _ _ ?_
  refine WC.seq fun K3 hK3 => ?_
  refine WC.seq fun K4 hK4 => ?_
  refine WC.region ?_
  refine WL.pure (v := .slice p P.length cp) 17 rfl (Nat.le_of_ble_eq_true rfl) rfl rfl (by kernel_rfl) ?_
  refine WL.pure (v := vI (P.length : Int)) 18 rfl (Nat.le_of_ble_eq_true rfl) rfl rfl (by kernel_rfl) ?_
  by_cases h100 : (100 : Int) < (P.length : Int)
  ·
    refine WL.pure (v := .bool true) 19 rfl (Nat.le_of_ble_eq_true rfl) rfl rfl (x_gtr rfl rfl rfl (dT (h100))) ?_
    refine WL.pure (v := .bool true) 20 rfl (Nat.le_of_ble_eq_true rfl) rfl rfl (by kernel_rfl) ?_
    refine WL.pass 21 rfl (Nat.le_of_ble_eq_true rfl) rfl ?_
    refine WL.pass 22 rfl (Nat.le_of_ble_eq_true rfl) rfl ?_
    refine WL.pass 23 rfl (Nat.le_of_ble_eq_true rfl) rfl ?_
    refine WL.pure (v := .bool true) 24 rfl (Nat.le_of_ble_eq_true rfl) rfl rfl (by kernel_rfl) ?_
    refine WL.nil ?_
    refine WQ.then ?_
    refine hK4 _ _ _ ?_
    refine WC.sub (l' := [(0, vI M), (1, .slice p P.length cp), (2, vI K), (3, .slice q0 sc.length cq), (8, .bool false), (24, .bool true)]) ⟨rfl, rfl, rfl, rfl, rfl, rfl, trivial⟩ ?_
    refine WC.yes rfl ?_
    refine WC.seq fun K5 hK5 => ?_
    refine WC.region ?_
    refine WL.call (f := 46) (args := #[]) 25 rfl (Nat.le_of_ble_eq_true rfl) rfl rfl (by kernel_rfl) ?_
    refine (awake_any _).mono ?_
    rintro e w6 ⟨rfl, hb7⟩
    refine ⟨_, rfl, ?_⟩
    have hH8 : HP Tr w _ [] := HP.call hH1 hb7
    refine WL.pure (v := .bool true) 8 rfl (Nat.le_of_ble_eq_true rfl) rfl rfl (by kernel_rfl) ?_
    refine WL.nil ?_
    refine WQ.then ?_
    refine hK5 _ _ _ ?_
    refine WC.ret ?_
    refine WQ.thenRet ?_
    refine WQ.ret1 8 rfl rfl ?_
    exact ⟨rfl, HP.below hH8⟩
  ·
    refine WL.pure (v := .bool false) 19 rfl (Nat.le_of_ble_eq_true rfl) rfl rfl (x_gtr rfl rfl rfl (dF (h100))) ?_
    refine WL.pure (v := .bool false) 20 rfl (Nat.le_of_ble_eq_true rfl) rfl rfl (by kernel_rfl) ?_
    refine WL.pure (v := .slice q0 sc.length cq) 21 rfl (Nat.le_of_ble_eq_true rfl) rfl rfl (by kernel_rfl) ?_
    refine WL.pure (v := vI (sc.length : Int)) 22 rfl (Nat.le_of_ble_eq_true rfl) rfl rfl (by kernel_rfl) ?_
    by_cases h1000 : (1000 : Int) < (sc.length : Int)
    ·
      refine WL.pure (v := .bool true) 23 rfl (Nat.le_of_ble_eq_true rfl) rfl rfl (x_gtr rfl rfl rfl (dT (h1000))) ?_
      refine WL.pure (v := .bool true) 24 rfl (Nat.le_of_ble_eq_true rfl) rfl rfl (by kernel_rfl) ?_
      refine WL.nil ?_
      refine WQ.then ?_
      refine hK4 _ _ _ ?_
      refine WC.sub (l' := [(0, vI M), (1, .slice p P.length cp), (2, vI K), (3, .slice q0 sc.length cq), (8, .bool false), (24, .bool true)]) ⟨rfl, rfl, rfl, rfl, rfl, rfl, trivial⟩ ?_
      refine WC.yes rfl ?_
      refine WC.seq fun K9 hK9 => ?_
      refine WC.region ?_
      refine WL.call (f := 46) (args := #[]) 25 rfl (Nat.le_of_ble_eq_true rfl) rfl rfl (by kernel_rfl) ?_
      refine (awake_any _).mono ?_
      rintro e w10 ⟨rfl, hb11⟩
      refine ⟨_, rfl, ?_⟩
      have hH12 : HP Tr w _ [] := HP.call hH1 hb11
      refine WL.pure (v := .bool true) 8 rfl (Nat.le_of_ble_eq_true rfl) rfl rfl (by kernel_rfl) ?_
      refine WL.nil ?_
      refine WQ.then ?_
      refine hK9 _ _ _ ?_
      refine WC.ret ?_
      refine WQ.thenRet ?_
      refine WQ.ret1 8 rfl rfl ?_
      exact ⟨rfl, HP.below hH12⟩
    ·
      refine WL.pure (v := .bool false) 23 rfl (Nat.le_of_ble_eq_true rfl) rfl rfl (x_gtr rfl rfl rfl (dF (h1000))) ?_
      refine WL.pure (v := .bool false) 24 rfl (Nat.le_of_ble_eq_true rfl) rfl rfl (by kernel_rfl) ?_
      refine WL.nil ?_
      refine WQ.then ?_
      refine hK4 _ _ _ ?_
      refine WC.sub (l' := [(0, vI M), (1, .slice p P.length cp), (2, vI K), (3, .slice q0 sc.length cq), (8, .bool false), (24, .bool false)]) ⟨rfl, rfl, rfl, rfl, rfl, rfl, trivial⟩ ?_
      refine WC.no rfl ?_
      refine WC.skip ?_
      refine WQ.then ?_
      refine hK3 _ _ _ ?_
      refine WC.seq fun K13 hK13 => ?_
      refine WC.region ?_
      refine WL.pure (v := vI M) 27 rfl (Nat.le_of_ble_eq_true rfl) rfl rfl (by kernel_rfl) ?_
      refine WL.pure (v := .slice p P.length cp) 28 rfl (Nat.le_of_ble_eq_true rfl) rfl rfl (by kernel_rfl) ?_
      refine WL.pure (v := vI K) 29 rfl (Nat.le_of_ble_eq_true rfl) rfl rfl (by kernel_rfl) ?_
      refine WL.pure (v := .slice q0 sc.length cq) 30 rfl (Nat.le_of_ble_eq_true rfl) rfl rfl (by kernel_rfl) ?_
      refine WL.call (f := 47) (args := #[vI M, .slice p P.length cp, vI K, .slice q0 sc.length cq]) 31 rfl (Nat.le_of_ble_eq_true rfl) rfl rfl (by kernel_rfl) ?_
      refine (Play_any M K p q0 cp cq P sc _ (wi_of hM) (hP.below (HP.below hH1)) hPc (hSc.below (HP.below hH1)) (by omega) (by omega)).mono ?_
      rintro e w1 (⟨er, her, rfl, hb⟩ | ⟨B, T, pv1, cp1, pv2, cp2, m, rfl, hm8, hK40, hwd, hP40, hG, rfl, hb⟩)
      ·
        refine ⟨_, rfl, ?_⟩
        have hH14 : HP Tr w _ [] := HP.call hH1 hb
        refine WL.pure (v := .tuple #[.slice none 0 0, .slice none 0 0, vI er]) 26 rfl (Nat.le_of_ble_eq_true rfl) rfl rfl (by kernel_rfl) ?_
        refine WL.pure (v := .slice none 0 0) 32 rfl (Nat.le_of_ble_eq_true rfl) rfl rfl (by kernel_rfl) ?_
        refine WL.pure (v := .slice none 0 0) 33 rfl (Nat.le_of_ble_eq_true rfl) rfl rfl (by kernel_rfl) ?_
        refine WL.pure (v := vI er) 34 rfl (Nat.le_of_ble_eq_true rfl) rfl rfl (by kernel_rfl) ?_
        refine WL.pure (v := .slice none 0 0) 9 rfl (Nat.le_of_ble_eq_true rfl) rfl rfl (by kernel_rfl) ?_
        refine WL.pure (v := .slice none 0 0) 10 rfl (Nat.le_of_ble_eq_true rfl) rfl rfl (by kernel_rfl) ?_
        refine WL.pure (v := vI er) 11 rfl (Nat.le_of_ble_eq_true rfl) rfl rfl (by kernel_rfl) ?_
        refine WL.nil ?_
        refine WQ.then ?_
        refine hK13 _ _ _ ?_
        refine WC.sub (l' := [(0, vI M), (1, .slice p P.length cp), (2, vI K), (3, .slice q0 sc.length cq), (8, .bool false), (9, .slice none 0 0), (10, .slice none 0 0), (11, vI er), (24, .bool false)]) ⟨rfl, rfl, rfl, rfl, rfl, rfl, rfl, rfl, rfl, trivial⟩ ?_
        refine WC.seq fun K15 hK15 => ?_
        refine WC.seq fun K16 hK16 => ?_
        refine WC.region ?_
        refine WL.pure (v := vI er) 35 rfl (Nat.le_of_ble_eq_true rfl) rfl rfl (by kernel_rfl) ?_
        refine WL.pure (v := .bool true) 36 rfl (Nat.le_of_ble_eq_true rfl) rfl rfl (x_neq rfl rfl rfl (dT (her))) ?_
        refine WL.nil ?_
        refine WQ.then ?_
        refine hK16 _ _ _ ?_
        refine WC.yes rfl ?_
        refine WC.seq fun K17 hK17 => ?_
        refine WC.region ?_
        refine WL.pure (v := .slice none 0 0) 37 rfl (Nat.le_of_ble_eq_true rfl) rfl rfl (by kernel_rfl) ?_
        refine WL.pure (v := vI 0) 38 rfl (Nat.le_of_ble_eq_true rfl) rfl rfl (by kernel_rfl) ?_
        refine WL.pure (v := .bool true) 39 rfl (Nat.le_of_ble_eq_true rfl) rfl rfl (x_eql rfl rfl rfl (by decide)) ?_
        refine WL.pure (v := .bool true) 40 rfl (Nat.le_of_ble_eq_true rfl) rfl rfl (by kernel_rfl) ?_
        refine WL.pure (v := .slice none 0 0) 41 rfl (Nat.le_of_ble_eq_true rfl) rfl rfl (by kernel_rfl) ?_
        refine WL.pure (v := vI 0) 42 rfl (Nat.le_of_ble_eq_true rfl) rfl rfl (by kernel_rfl) ?_
        refine WL.pure (v := .bool true) 43 rfl (Nat.le_of_ble_eq_true rfl) rfl rfl (x_eql rfl rfl rfl (by decide)) ?_
        refine WL.pure (v := .bool true) 44 rfl (Nat.le_of_ble_eq_true rfl) rfl rfl (by kernel_rfl) ?_
        refine WL.pure (v := .bool true) 45 rfl (Nat.le_of_ble_eq_true rfl) rfl rfl (by kernel_rfl) ?_
        refine WL.call (f := 46) (args := #[]) 46 rfl (Nat.le_of_ble_eq_true rfl) rfl rfl (by kernel_rfl) ?_
        refine (awake_any _).mono ?_
        rintro e w18 ⟨rfl, hb19⟩
        refine ⟨_, rfl, ?_⟩
        have hH20 : HP Tr w _ [] := HP.call hH14 hb19
        refine WL.pure (v := .bool true) 47 rfl (Nat.le_of_ble_eq_true rfl) rfl rfl (by kernel_rfl) ?_
        refine WL.pure (v := .bool true) 8 rfl (Nat.le_of_ble_eq_true rfl) rfl rfl (by kernel_rfl) ?_
        refine WL.nil ?_
        refine WQ.then ?_
        refine hK17 _ _ _ ?_
        refine WC.sub (l' := [(0, vI M), (1, .slice p P.length cp), (2, vI K), (3, .slice q0 sc.length cq), (8, .bool true), (9, .slice none 0 0), (10, .slice none 0 0), (11, vI er), (24, .bool false), (36, .bool true)]) ⟨rfl, rfl, rfl, rfl, rfl, rfl, rfl, rfl, rfl, rfl, trivial⟩ ?_
        refine WC.ret ?_
        refine WQ.thenRet ?_
        refine WQ.ret1 8 rfl rfl ?_
        exact ⟨rfl, HP.below hH20⟩
      ·
        refine ⟨_, rfl, ?_⟩
        have hH21 : HP Tr w _ [.own (.slice pv1 B.length cp1) B.length (bL B) 4 1, .own (.slice pv2 T.length cp2) T.length (iL T) 3 1] := HP.trans hH1 hb
        refine WL.pure (v := .tuple #[.slice pv1 B.length cp1, .slice pv2 T.length cp2, vI 0]) 26 rfl (Nat.le_of_ble_eq_true rfl) rfl rfl (by kernel_rfl) ?_
        refine WL.pure (v := .slice pv1 B.length cp1) 32 rfl (Nat.le_of_ble_eq_true rfl) rfl rfl (by kernel_rfl) ?_
        refine WL.pure (v := .slice pv2 T.length cp2) 33 rfl (Nat.le_of_ble_eq_true rfl) rfl rfl (by kernel_rfl) ?_
        refine WL.pure (v := vI 0) 34 rfl (Nat.le_of_ble_eq_true rfl) rfl rfl (by kernel_rfl) ?_
        refine WL.pure (v := .slice pv1 B.length cp1) 9 rfl (Nat.le_of_ble_eq_true rfl) rfl rfl (by kernel_rfl) ?_
        refine WL.pure (v := .slice pv2 T.length cp2) 10 rfl (Nat.le_of_ble_eq_true rfl) rfl rfl (by kernel_rfl) ?_
        refine WL.pure (v := vI 0) 11 rfl (Nat.le_of_ble_eq_true rfl) rfl rfl (by kernel_rfl) ?_
        refine WL.nil ?_
        refine WQ.then ?_
        refine hK13 _ _ _ ?_
        refine WC.sub (l' := [(0, vI (m : Int)), (1, .slice p P.length cp), (2, vI K), (3, .slice q0 sc.length cq), (8, .bool false), (9, .slice pv1 B.length cp1), (10, .slice pv2 T.length cp2), (11, vI 0), (24, .bool false)]) ⟨rfl, rfl, rfl, rfl, rfl, rfl, rfl, rfl, rfl, trivial⟩ ?_
        refine WC.seq fun K22 hK22 => ?_
        refine WC.seq fun K23 hK23 => ?_
        refine WC.region ?_
        refine WL.pure (v := vI 0) 35 rfl (Nat.le_of_ble_eq_true rfl) rfl rfl (by kernel_rfl) ?_
        refine WL.pure (v := .bool false) 36 rfl (Nat.le_of_ble_eq_true rfl) rfl rfl (x_neq rfl rfl rfl (by decide)) ?_
        refine WL.nil ?_
        refine WQ.then ?_
        refine hK23 _ _ _ ?_
        refine WC.no rfl ?_
        refine WC.skip ?_
        refine WQ.then ?_
        refine hK22 _ _ _ ?_
        refine WC.seq fun K24 hK24 => ?_
        refine WC.region ?_
        refine WL.pure (v := vI 0) 12 rfl (Nat.le_of_ble_eq_true rfl) rfl rfl (by kernel_rfl) ?_
        refine WL.nil ?_
        refine WQ.then ?_
        refine hK24 _ _ _ ?_
        refine WC.seq fun K25 hK25 => ?_
        refine WC.seq fun K26 hK26 => ?_
        refine WC.region ?_
        refine WL.pure (v := vI 0) 13 rfl (Nat.le_of_ble_eq_true rfl) rfl rfl (by kernel_rfl) ?_
        refine WL.nil ?_
        refine WQ.then ?_
        refine hK26 _ _ _ ?_
        refine WC.block ?_
        refine WC.loop (fun kk0 ll0 ww0 => ∃ (i : Nat), ll0 = [(0, vI (m : Int)), (1, .slice p P.length cp), (2, vI K), (3, .slice q0 sc.length cq), (9, .slice pv1 B.length cp1), (10, .slice pv2 T.length cp2), (12, vI (zer sc i : Int)), (13, vI (i : Int))] ∧ kk0 = sc.length - i ∧ (i ≤ sc.length) ∧ HP Tr w ww0 [.own (.slice pv1 B.length cp1) B.length (bL B) 4 1, .own (.slice pv2 T.length cp2) T.length (iL T) 3 1]) (sc.length) [(0, vI (m : Int)), (1, .slice p P.length cp), (2, vI K), (3, .slice q0 sc.length cq), (9, .slice pv1 B.length cp1), (10, .slice pv2 T.length cp2), (12, vI 0), (13, vI 0)] ⟨rfl, rfl, rfl, rfl, rfl, rfl, rfl, rfl, trivial⟩ ⟨0, rfl, rfl, Nat.zero_le _, hH21⟩ ?_
        rintro kk l w28 ⟨i, rfl, hkk, hi, hH29⟩ K27 hK27
        refine WC.seq fun K30 hK30 => ?_
        refine WC.seq fun K31 hK31 => ?_
        refine WC.region ?_
        refine WL.pure (v := vI (i : Int)) 48 rfl (Nat.le_of_ble_eq_true rfl) rfl rfl (by kernel_rfl) ?_
        refine WL.pure (v := .slice q0 sc.length cq) 49 rfl (Nat.le_of_ble_eq_true rfl) rfl rfl (by kernel_rfl) ?_
        refine WL.pure (v := vI (sc.length : Int)) 50 rfl (Nat.le_of_ble_eq_true rfl) rfl rfl (by kernel_rfl) ?_
        by_cases hlt : (i : Int) < (sc.length : Int)
        ·
          refine WL.pure (v := .bool true) 51 rfl (Nat.le_of_ble_eq_true rfl) rfl rfl (x_lss rfl rfl rfl (dT (hlt))) ?_
          refine WL.nil ?_
          refine WQ.then ?_
          refine hK31 _ _ _ ?_
          refine WC.yes rfl ?_
          refine WC.skip ?_
          refine WQ.then ?_
          refine hK30 _ _ _ ?_
          refine WC.seq fun K32 hK32 => ?_
          refine WC.block ?_
          refine WC.seq fun K33 hK33 => ?_
          obtain ⟨gs, os, hgs, hrows⟩ := hSc (by omega)
          subst hgs
          refine WC.region ?_
          refine WL.pure (v := .slice (some ⟨gs, os, none⟩) sc.length cq) 54 rfl (Nat.le_of_ble_eq_true rfl) rfl rfl (by kernel_rfl) ?_
          refine WL.pure (v := vI (i : Int)) 55 rfl (Nat.le_of_ble_eq_true rfl) rfl rfl (by kernel_rfl) ?_
          refine WL.pure (v := vP gs (os + i)) 56 rfl (Nat.le_of_ble_eq_true rfl) rfl rfl (x_idx (i) (os + i) rfl rfl rfl Try.underlying58 sz3 (by omega) (by omega) (by omega)) ?_
          refine WL.pure (v := vI (sc.getD i 0)) 57 rfl (Nat.le_of_ble_eq_true rfl) rfl rfl (x_load rfl rfl Try.underlying3 rfl ((HP.oldRange hH29 trivial (hrows i (by omega))) 0 _ rfl)) ?_
          by_cases hz : sc.getD i 0 = 0
          ·
            have hzz : zer sc (i + 1) = zer sc i + 1 := zer_s hz
            refine WL.pure (v := .bool true) 58 rfl (Nat.le_of_ble_eq_true rfl) rfl rfl (x_eql rfl rfl rfl (dT (hz))) ?_
            refine WL.nil ?_
            refine WQ.then ?_
            refine hK33 _ _ _ ?_
            refine WC.sub (l' := [(0, vI (m : Int)), (1, .slice p P.length cp), (2, vI K), (3, .slice (some ⟨gs, os, none⟩) sc.length cq), (9, .slice pv1 B.length cp1), (10, .slice pv2 T.length cp2), (12, vI (zer sc i : Int)), (13, vI (i : Int)), (51, .bool true), (58, .bool true)]) ⟨rfl, rfl, rfl, rfl, rfl, rfl, rfl, rfl, rfl, rfl, trivial⟩ ?_
            refine WC.yes rfl ?_
            refine WC.region ?_
            refine WL.pure (v := vI (zer sc i : Int)) 59 rfl (Nat.le_of_ble_eq_true rfl) rfl rfl (by kernel_rfl) ?_
            refine WL.pure (v := vI (zer sc (i + 1) : Int)) 60 rfl (Nat.le_of_ble_eq_true rfl) rfl rfl (x_add (Z := (zer sc (i + 1) : Int)) rfl rfl rfl (by omega) (by omega) (by have := zer_le sc (i + 1); omega)) ?_
            refine WL.pure (v := vI (zer sc (i + 1) : Int)) 12 rfl (Nat.le_of_ble_eq_true rfl) rfl rfl (by kernel_rfl) ?_
            refine WL.nil ?_
            refine WQ.inNormal ?_
            refine WQ.then ?_
            refine hK32 _ _ _ ?_
            refine WC.region ?_
            refine WL.pure (v := vI (i : Int)) 52 rfl (Nat.le_of_ble_eq_true rfl) rfl rfl (by kernel_rfl) ?_
            refine WL.pure (v := vI ((i + 1 : Nat) : Int)) 53 rfl (Nat.le_of_ble_eq_true rfl) rfl rfl (x_add (Z := ((i + 1 : Nat) : Int)) rfl rfl rfl (by omega) (by omega) (by omega)) ?_
            refine WL.pure (v := vI ((i + 1 : Nat) : Int)) 13 rfl (Nat.le_of_ble_eq_true rfl) rfl rfl (by kernel_rfl) ?_
            refine WL.nil ?_
            refine WQ.sub (l' := [(0, vI (m : Int)), (1, .slice p P.length cp), (2, vI K), (3, .slice (some ⟨gs, os, none⟩) sc.length cq), (9, .slice pv1 B.length cp1), (10, .slice pv2 T.length cp2), (12, vI (zer sc (i + 1) : Int)), (13, vI ((i + 1 : Nat) : Int))]) ⟨rfl, rfl, rfl, rfl, rfl, rfl, rfl, rfl, trivial⟩ ?_
            refine WQ.then (hK27 _ _ _ (by omega) ⟨i + 1, rfl, rfl, by omega, hH29⟩)
          ·
            have hzz : zer sc (i + 1) = zer sc i := zer_n hz
            refine WL.pure (v := .bool false) 58 rfl (Nat.le_of_ble_eq_true rfl) rfl rfl (x_eql rfl rfl rfl (dF (hz))) ?_
            refine WL.nil ?_
            refine WQ.then ?_
            refine hK33 _ _ _ ?_
            refine WC.sub (l' := [(0, vI (m : Int)), (1, .slice p P.length cp), (2, vI K), (3, .slice (some ⟨gs, os, none⟩) sc.length cq), (9, .slice pv1 B.length cp1), (10, .slice pv2 T.length cp2), (12, vI (zer sc i : Int)), (13, vI (i : Int)), (51, .bool true), (58, .bool false)]) ⟨rfl, rfl, rfl, rfl, rfl, rfl, rfl, rfl, rfl, rfl, trivial⟩ ?_
            refine WC.no rfl ?_
            refine WC.skip ?_
            refine WQ.inNormal ?_
            refine WQ.then ?_
            refine hK32 _ _ _ ?_
            rw [show (zer sc i : Int) = ((zer sc (i + 1) : Nat) : Int) by rw [hzz]]
            refine WC.region ?_
            refine WL.pure (v := vI (i : Int)) 52 rfl (Nat.le_of_ble_eq_true rfl) rfl rfl (by kernel_rfl) ?_
            refine WL.pure (v := vI ((i + 1 : Nat) : Int)) 53 rfl (Nat.le_of_ble_eq_true rfl) rfl rfl (x_add (Z := ((i + 1 : Nat) : Int)) rfl rfl rfl (by omega) (by omega) (by omega)) ?_
            refine WL.pure (v := vI ((i + 1 : Nat) : Int)) 13 rfl (Nat.le_of_ble_eq_true rfl) rfl rfl (by kernel_rfl) ?_
            refine WL.nil ?_
            refine WQ.sub (l' := [(0, vI (m : Int)), (1, .slice p P.length cp), (2, vI K), (3, .slice (some ⟨gs, os, none⟩) sc.length cq), (9, .slice pv1 B.length cp1), (10, .slice pv2 T.length cp2), (12, vI (zer sc (i + 1) : Int)), (13, vI ((i + 1 : Nat) : Int))]) ⟨rfl, rfl, rfl, rfl, rfl, rfl, rfl, rfl, trivial⟩ ?_
            refine WQ.then (hK27 _ _ _ (by omega) ⟨i + 1, rfl, rfl, by omega, hH29⟩)
        ·
          refine WL.pure (v := .bool false) 51 rfl (Nat.le_of_ble_eq_true rfl) rfl rfl (x_lss rfl rfl rfl (dF (hlt))) ?_
          refine WL.nil ?_
          refine WQ.then ?_
          refine hK31 _ _ _ ?_
          refine WC.no rfl ?_
          refine WC.exit ?_
          refine WQ.thenExit ?_
          refine WQ.thenExit ?_
          refine WQ.inExit ?_
          refine WQ.then ?_
          refine hK25 _ _ _ ?_
          refine WC.seq fun K34 hK34 => ?_
          refine WC.seq fun K35 hK35 => ?_
          have hie : i = sc.length := by omega
          subst hie
          have hg1 := hG.bl
          have hg2 := hG.wr
          have hg3 := hG.tk
          have hg6 := zer_le sc sc.length
          refine WC.region ?_
          refine WL.pure (v := .slice pv1 B.length cp1) 61 rfl (Nat.le_of_ble_eq_true rfl) rfl rfl (by kernel_rfl) ?_
          refine WL.pure (v := vI (B.length : Int)) 62 rfl (Nat.le_of_ble_eq_true rfl) rfl rfl (by kernel_rfl) ?_
          refine WL.pure (v := .slice p P.length cp) 63 rfl (Nat.le_of_ble_eq_true rfl) rfl rfl (by kernel_rfl) ?_
          refine WL.pure (v := vI (P.length : Int)) 64 rfl (Nat.le_of_ble_eq_true rfl) rfl rfl (by kernel_rfl) ?_
          refine WL.pure (v := .bool false) 65 rfl (Nat.le_of_ble_eq_true rfl) rfl rfl (x_gtr rfl rfl rfl (dF (by omega))) ?_
          refine WL.pure (v := .bool false) 66 rfl (Nat.le_of_ble_eq_true rfl) rfl rfl (by kernel_rfl) ?_
          refine WL.pure (v := .slice pv1 B.length cp1) 67 rfl (Nat.le_of_ble_eq_true rfl) rfl rfl (by kernel_rfl) ?_
          refine WL.pure (v := vI (B.length : Int)) 68 rfl (Nat.le_of_ble_eq_true rfl) rfl rfl (by kernel_rfl) ?_
          refine WL.pure (v := .slice p P.length cp) 69 rfl (Nat.le_of_ble_eq_true rfl) rfl rfl (by kernel_rfl) ?_
          refine WL.pure (v := vI (P.length : Int)) 70 rfl (Nat.le_of_ble_eq_true rfl) rfl rfl (by kernel_rfl) ?_
          refine WL.pure (v := vI (zer sc sc.length : Int)) 71 rfl (Nat.le_of_ble_eq_true rfl) rfl rfl (by kernel_rfl) ?_
          refine WL.pure (v := vI ((zer sc sc.length : Int) / 3)) 72 rfl (Nat.le_of_ble_eq_true rfl) rfl rfl (x_quo (Z := (zer sc sc.length : Int) / 3) rfl rfl rfl (by omega) (tdiv_pos (by omega) (by omega)) (by omega) (by omega)) ?_
          refine WL.pure (v := vI (min (P.length : Int) ((zer sc sc.length : Int) / 3))) 73 rfl (Nat.le_of_ble_eq_true rfl) rfl rfl (x_min (Z := min (P.length : Int) ((zer sc sc.length : Int) / 3)) (t := 0) rfl rfl rfl (by split <;> omega)) ?_
          refine WL.pure (v := .bool false) 74 rfl (Nat.le_of_ble_eq_true rfl) rfl rfl (x_lss rfl rfl rfl (dF (by omega))) ?_
          refine WL.pure (v := .bool false) 75 rfl (Nat.le_of_ble_eq_true rfl) rfl rfl (by kernel_rfl) ?_
          refine WL.pure (v := .bool false) 76 rfl (Nat.le_of_ble_eq_true rfl) rfl rfl (by kernel_rfl) ?_
          refine WL.pure (v := .slice pv2 T.length cp2) 77 rfl (Nat.le_of_ble_eq_true rfl) rfl rfl (by kernel_rfl) ?_
          refine WL.pure (v := vI (T.length : Int)) 78 rfl (Nat.le_of_ble_eq_true rfl) rfl rfl (by kernel_rfl) ?_
          refine WL.pure (v := vI K) 79 rfl (Nat.le_of_ble_eq_true rfl) rfl rfl (by kernel_rfl) ?_
          refine WL.pure (v := .bool false) 80 rfl (Nat.le_of_ble_eq_true rfl) rfl rfl (x_gtr rfl rfl rfl (dF (by omega))) ?_
          refine WL.pure (v := .bool false) 81 rfl (Nat.le_of_ble_eq_true rfl) rfl rfl (by kernel_rfl) ?_
          refine WL.nil ?_
          refine WQ.then ?_
          refine hK35 _ _ _ ?_
          refine WC.sub (l' := [(0, vI (m : Int)), (1, .slice p P.length cp), (2, vI K), (3, .slice q0 sc.length cq), (9, .slice pv1 B.length cp1), (10, .slice pv2 T.length cp2), (12, vI (zer sc sc.length : Int)), (13, vI (sc.length : Int)), (51, .bool false), (81, .bool false)]) ⟨rfl, rfl, rfl, rfl, rfl, rfl, rfl, rfl, rfl, rfl, trivial⟩ ?_
          refine WC.no rfl ?_
          refine WC.skip ?_
          refine WQ.then ?_
          refine hK34 _ _ _ ?_
          refine WC.seq fun K36 hK36 => ?_
          have hH37 : HP Tr w _ [.own (.slice pv1 B.length cp1) B.length (bL B) 4 1, .own (.slice pv2 T.length cp2) T.length (iL T) 3 1, .own (.slice none 0 0) 0 (iL []) 3 1] := HP.ownNil hH29 3 1
          refine WC.region ?_
          refine WL.pure (v := .slice none 0 0) 14 rfl (Nat.le_of_ble_eq_true rfl) rfl rfl (by kernel_rfl) ?_
          refine WL.nil ?_
          refine WQ.then ?_
          refine hK36 _ _ _ ?_
          refine WC.seq fun K38 hK38 => ?_
          refine WC.seq fun K39 hK39 => ?_
          refine WC.region ?_
          refine WL.pure (v := vI 0) 15 rfl (Nat.le_of_ble_eq_true rfl) rfl rfl (by kernel_rfl) ?_
          refine WL.nil ?_
          refine WQ.then ?_
          refine hK39 _ _ _ ?_
          refine WC.block ?_
          refine WC.loop (fun kk0 ll0 ww0 => ∃ (i : Nat) (xs : List Int) (pv3 : Option Addr) (cp3 : Nat), ll0 = [(0, vI (m : Int)), (1, .slice p P.length cp), (2, vI K), (9, .slice pv1 B.length cp1), (10, .slice pv2 T.length cp2), (14, .slice pv3 xs.length cp3), (15, vI (i : Int))] ∧ kk0 = B.length - i ∧ (i ≤ B.length) ∧ (xs = sent (B.take i) P) ∧ HP Tr w ww0 [.own (.slice pv1 B.length cp1) B.length (bL B) 4 1, .own (.slice pv2 T.length cp2) T.length (iL T) 3 1, .own (.slice pv3 xs.length cp3) xs.length (iL xs) 3 1]) (B.length) [(0, vI (m : Int)), (1, .slice p P.length cp), (2, vI K), (9, .slice pv1 B.length cp1), (10, .slice pv2 T.length cp2), (14, .slice none 0 0), (15, vI 0)] ⟨rfl, rfl, rfl, rfl, rfl, rfl, rfl, trivial⟩ ⟨0, [], none, 0, rfl, rfl, Nat.zero_le _, by simp [sent], hH37⟩ ?_
          rintro kk l w41 ⟨i, xs, pv3, cp3, rfl, hkk, hi2, hx, hH42⟩ K40 hK40
          refine WC.seq fun K43 hK43 => ?_
          refine WC.seq fun K44 hK44 => ?_
          refine WC.region ?_
          refine WL.pure (v := vI (i : Int)) 82 rfl (Nat.le_of_ble_eq_true rfl) rfl rfl (by kernel_rfl) ?_
          refine WL.pure (v := .slice pv1 B.length cp1) 83 rfl (Nat.le_of_ble_eq_true rfl) rfl rfl (by kernel_rfl) ?_
          refine WL.pure (v := vI (B.length : Int)) 84 rfl (Nat.le_of_ble_eq_true rfl) rfl rfl (by kernel_rfl) ?_
          by_cases hlt2 : (i : Int) < (B.length : Int)
          ·
            refine WL.pure (v := .bool true) 85 rfl (Nat.le_of_ble_eq_true rfl) rfl rfl (x_lss rfl rfl rfl (dT (hlt2))) ?_
            refine WL.nil ?_
            refine WQ.then ?_
            refine hK44 _ _ _ ?_
            refine WC.yes rfl ?_
            refine WC.skip ?_
            refine WQ.then ?_
            refine hK43 _ _ _ ?_
            refine WC.seq fun K45 hK45 => ?_
            refine WC.block ?_
            refine WC.seq fun K46 hK46 => ?_
            obtain ⟨gb, hgb⟩ := rowB_open (HP.get hH42 0 rfl) (by omega)
            subst hgb
            refine WC.region ?_
            refine WL.pure (v := vS gb B.length cp1) 88 rfl (Nat.le_of_ble_eq_true rfl) rfl rfl (by kernel_rfl) ?_
            refine WL.pure (v := vI (i : Int)) 89 rfl (Nat.le_of_ble_eq_true rfl) rfl rfl (by kernel_rfl) ?_
            refine WL.pure (v := vP gb i) 90 rfl (Nat.le_of_ble_eq_true rfl) rfl rfl (x_idx (i) (i) rfl rfl rfl Try.underlying67 sz4 (by omega) (by omega) (by omega)) ?_
            refine WL.pure (v := .bool (B.getD i false)) 91 rfl (Nat.le_of_ble_eq_true rfl) rfl rfl (x_load rfl rfl Try.underlying4 rfl (ownB (HP.get hH42 0 rfl) (by omega))) ?_
            refine WL.nil ?_
            refine WQ.then ?_
            refine hK46 _ _ _ ?_
            refine WC.sub (l' := [(0, vI (m : Int)), (1, .slice p P.length cp), (2, vI K), (9, vS gb B.length cp1), (10, .slice pv2 T.length cp2), (14, .slice pv3 xs.length cp3), (15, vI (i : Int)), (85, .bool true), (91, .bool (B.getD i false))]) ⟨rfl, rfl, rfl, rfl, rfl, rfl, rfl, rfl, rfl, trivial⟩ ?_
            rcases Bool.eq_false_or_eq_true (B.getD i false) with hb | hb
            ·
              refine WC.yes (congrArg (fun b => some (Value.bool b)) hb) ?_
              obtain ⟨gp, op, hgp, hrowp⟩ := hP (by omega)
              subst hgp
              refine WC.region ?_
              refine WL.pure (v := .slice pv3 xs.length cp3) 92 rfl (Nat.le_of_ble_eq_true rfl) rfl rfl (by kernel_rfl) ?_
              refine WL.pure (v := .slice (some ⟨gp, op, none⟩) P.length cp) 93 rfl (Nat.le_of_ble_eq_true rfl) rfl rfl (by kernel_rfl) ?_
              refine WL.pure (v := vI (i : Int)) 94 rfl (Nat.le_of_ble_eq_true rfl) rfl rfl (by kernel_rfl) ?_
              refine WL.pure (v := vP gp (op + i)) 95 rfl (Nat.le_of_ble_eq_true rfl) rfl rfl (x_idx (i) (op + i) rfl rfl rfl Try.underlying58 sz3 (by omega) (by omega) (by omega)) ?_
              refine WL.pure (v := vI (P.getD i 0)) 96 rfl (Nat.le_of_ble_eq_true rfl) rfl rfl (x_load rfl rfl Try.underlying3 rfl ((HP.oldRange hH42 trivial (hrowp i (by omega))) 0 _ rfl)) ?_
              refine WL.alloc (c := #[vI (P.getD i 0)]) (T := 3) hH42 97 rfl (by decide) rfl rfl (fun b47 => vS b47 1 1) (by kernel_rfl) (fun b47 w48 hw48 => ?_)
              have hH49 : HP Tr w w48 [.own (.slice (some ⟨gb, 0, none⟩) B.length cp1) B.length (bL B) 4 1, .own (.slice pv2 T.length cp2) T.length (iL T) 3 1, .own (.slice pv3 xs.length cp3) xs.length (iL xs) 3 1, .cel b47 #[vI (P.getD i 0)] 3] := hw48.2
              have nb47 := hw48.1
              clear hw48
              obtain ⟨i0, hi0, hz0, hz1, hz2⟩ := infoI
              have hxl := sent_len (B := B.take i) (P := P)
              rw [← hx, List.length_take] at hxl
              refine WL.appendSrc (k := xs.length) (m := 1) (iL [P.getD i 0]) 2 hH49 98 rfl (by decide) rfl rfl rfl rfl Try.underlying58 hi0 hz0 hz1 hz2 rfl (by decide) rfl (.inl ⟨_, rfl, fun q u hu => by rw [ad_add]; exact HP.cell hH49 3 rfl (by simpa using hu)⟩) (by simp) (iL_one _) (by unfold maxLen; omega) (by omega) ?_
              rintro v9 w9 - hB9
              have e9 : xs.length + 1 = (xs ++ [P.getD i 0]).length := by simp
              have hC9 : Ent.holds w9 (.own v9 (xs.length + 1) (iL xs ++ iL [P.getD i 0]) 3 1) := HP.get hB9 2 rfl
              obtain ⟨pv9, cp9, rfl⟩ := own_rowG hC9
              rw [e9] at hB9 ⊢
              have hH50 : HP Tr w _ [.own (.slice (some ⟨gb, 0, none⟩) B.length cp1) B.length (bL B) 4 1, .own (.slice pv2 T.length cp2) T.length (iL T) 3 1, .own (.slice pv9 (xs ++ [P.getD i 0]).length cp9) (xs ++ [P.getD i 0]).length (iL (xs ++ [P.getD i 0])) 3 1, .cel b47 #[vI (P.getD i 0)] 3] := HP.eq hB9 (by simp [iL])
              have hH51 : HP Tr w _ [.own (.slice (some ⟨gb, 0, none⟩) B.length cp1) B.length (bL B) 4 1, .own (.slice pv2 T.length cp2) T.length (iL T) 3 1, .own (.slice pv9 (xs ++ [P.getD i 0]).length cp9) (xs ++ [P.getD i 0]).length (iL (xs ++ [P.getD i 0])) 3 1] := (HP.drop hH50 3)
              refine WL.pure (v := .slice pv9 ((xs ++ [P.getD i 0]).length) cp9) 14 rfl (Nat.le_of_ble_eq_true rfl) rfl rfl (by kernel_rfl) ?_
              refine WL.nil ?_
              refine WQ.inNormal ?_
              refine WQ.then ?_
              refine hK45 _ _ _ ?_
              refine WC.sub (l' := [(0, vI (m : Int)), (1, .slice (some ⟨gp, op, none⟩) P.length cp), (2, vI K), (9, vS gb B.length cp1), (10, .slice pv2 T.length cp2), (14, .slice pv9 ((xs ++ [P.getD i 0]).length) cp9), (15, vI (i : Int)), (85, .bool true), (91, .bool (B.getD i false))]) ⟨rfl, rfl, rfl, rfl, rfl, rfl, rfl, rfl, rfl, trivial⟩ ?_
              refine WC.region ?_
              refine WL.pure (v := vI (i : Int)) 86 rfl (Nat.le_of_ble_eq_true rfl) rfl rfl (by kernel_rfl) ?_
              refine WL.pure (v := vI ((i + 1 : Nat) : Int)) 87 rfl (Nat.le_of_ble_eq_true rfl) rfl rfl (x_add (Z := ((i + 1 : Nat) : Int)) rfl rfl rfl (by omega) (by omega) (by omega)) ?_
              refine WL.pure (v := vI ((i + 1 : Nat) : Int)) 15 rfl (Nat.le_of_ble_eq_true rfl) rfl rfl (by kernel_rfl) ?_
              refine WL.nil ?_
              refine WQ.sub (l' := [(0, vI (m : Int)), (1, .slice (some ⟨gp, op, none⟩) P.length cp), (2, vI K), (9, vS gb B.length cp1), (10, .slice pv2 T.length cp2), (14, .slice pv9 ((xs ++ [P.getD i 0]).length) cp9), (15, vI ((i + 1 : Nat) : Int))]) ⟨rfl, rfl, rfl, rfl, rfl, rfl, rfl, trivial⟩ ?_
              refine WQ.then (hK40 _ _ _ (by omega) ⟨i + 1, (xs ++ [P.getD i 0]), pv9, cp9, rfl, rfl, by omega, by rw [sent_take (by omega) hg1 hb, hx]; rfl, hH51⟩)
            ·
              refine WC.no (congrArg (fun b => some (Value.bool b)) hb) ?_
              refine WC.skip ?_
              refine WQ.inNormal ?_
              refine WQ.then ?_
              refine hK45 _ _ _ ?_
              refine WC.region ?_
              refine WL.pure (v := vI (i : Int)) 86 rfl (Nat.le_of_ble_eq_true rfl) rfl rfl (by kernel_rfl) ?_
              refine WL.pure (v := vI ((i + 1 : Nat) : Int)) 87 rfl (Nat.le_of_ble_eq_true rfl) rfl rfl (x_add (Z := ((i + 1 : Nat) : Int)) rfl rfl rfl (by omega) (by omega) (by omega)) ?_
              refine WL.pure (v := vI ((i + 1 : Nat) : Int)) 15 rfl (Nat.le_of_ble_eq_true rfl) rfl rfl (by kernel_rfl) ?_
              refine WL.nil ?_
              refine WQ.sub (l' := [(0, vI (m : Int)), (1, .slice p P.length cp), (2, vI K), (9, vS gb B.length cp1), (10, .slice pv2 T.length cp2), (14, .slice pv3 xs.length cp3), (15, vI ((i + 1 : Nat) : Int))]) ⟨rfl, rfl, rfl, rfl, rfl, rfl, rfl, trivial⟩ ?_
              refine WQ.then (hK40 _ _ _ (by omega) ⟨i + 1, xs, pv3, cp3, rfl, rfl, by omega, by rw [sent_take (by omega) hg1 hb, hx]; simp, hH42⟩)
          ·
            refine WL.pure (v := .bool false) 85 rfl (Nat.le_of_ble_eq_true rfl) rfl rfl (x_lss rfl rfl rfl (dF (hlt2))) ?_
            refine WL.nil ?_
            refine WQ.then ?_
            refine hK44 _ _ _ ?_
            refine WC.no rfl ?_
            refine WC.exit ?_
            refine WQ.thenExit ?_
            refine WQ.thenExit ?_
            refine WQ.inExit ?_
            refine WQ.then ?_
            refine hK38 _ _ _ ?_
            refine WC.seq fun K52 hK52 => ?_
            refine WC.seq fun K53 hK53 => ?_
            have hie2 : i = B.length := by omega
            have hx9 : xs = sent B P := by rw [hx, hie2, List.take_length]
            subst hx9
            have hH54 : HP Tr w _ [.own (.slice pv1 B.length cp1) B.length (bL B) 4 1, .own (.slice pv2 T.length cp2) T.length (iL T) 3 1, .own (.slice pv3 (sent B P).length cp3) (sent B P).length (iL (sent B P)) 3 1] := hH42
            have hg4 := hG.le
            have hg5 := hG.rm
            refine WC.region ?_
            refine WL.pure (v := .slice pv2 T.length cp2) 99 rfl (Nat.le_of_ble_eq_true rfl) rfl rfl (by kernel_rfl) ?_
            refine WL.pure (v := vI (T.length : Int)) 100 rfl (Nat.le_of_ble_eq_true rfl) rfl rfl (by kernel_rfl) ?_
            refine WL.pure (v := .slice pv3 ((sent B P).length) cp3) 101 rfl (Nat.le_of_ble_eq_true rfl) rfl rfl (by kernel_rfl) ?_
            refine WL.pure (v := vI (((sent B P).length : Nat) : Int)) 102 rfl (Nat.le_of_ble_eq_true rfl) rfl rfl (by kernel_rfl) ?_
            refine WL.pure (v := .bool false) 103 rfl (Nat.le_of_ble_eq_true rfl) rfl rfl (x_gtr rfl rfl rfl (dF (by omega))) ?_
            refine WL.pure (v := .bool false) 104 rfl (Nat.le_of_ble_eq_true rfl) rfl rfl (by kernel_rfl) ?_
            refine WL.pure (v := .slice pv3 ((sent B P).length) cp3) 105 rfl (Nat.le_of_ble_eq_true rfl) rfl rfl (by kernel_rfl) ?_
            refine WL.pure (v := vI (((sent B P).length : Nat) : Int)) 106 rfl (Nat.le_of_ble_eq_true rfl) rfl rfl (by kernel_rfl) ?_
            refine WL.pure (v := .slice pv2 T.length cp2) 107 rfl (Nat.le_of_ble_eq_true rfl) rfl rfl (by kernel_rfl) ?_
            refine WL.pure (v := vI (T.length : Int)) 108 rfl (Nat.le_of_ble_eq_true rfl) rfl rfl (by kernel_rfl) ?_
            refine WL.pure (v := vI ((((sent B P).length : Nat) : Int) - (T.length : Int))) 109 rfl (Nat.le_of_ble_eq_true rfl) rfl rfl (x_sub (Z := (((sent B P).length : Nat) : Int) - (T.length : Int)) rfl rfl rfl (by omega) (by omega) (by omega)) ?_
            refine WL.pure (v := vI (m : Int)) 110 rfl (Nat.le_of_ble_eq_true rfl) rfl rfl (by kernel_rfl) ?_
            refine WL.pure (v := .bool false) 111 rfl (Nat.le_of_ble_eq_true rfl) rfl rfl (x_gtr rfl rfl rfl (dF (by omega))) ?_
            refine WL.pure (v := .bool false) 112 rfl (Nat.le_of_ble_eq_true rfl) rfl rfl (by kernel_rfl) ?_
            refine WL.nil ?_
            refine WQ.then ?_
            refine hK53 _ _ _ ?_
            refine WC.sub (l' := [(0, vI (m : Int)), (1, .slice p P.length cp), (2, vI K), (9, .slice pv1 B.length cp1), (10, .slice pv2 T.length cp2), (14, .slice pv3 ((sent B P).length) cp3), (15, vI (i : Int)), (85, .bool false), (112, .bool false)]) ⟨rfl, rfl, rfl, rfl, rfl, rfl, rfl, rfl, rfl, trivial⟩ ?_
            refine WC.no rfl ?_
            refine WC.skip ?_
            refine WQ.then ?_
            refine hK52 _ _ _ ?_
            refine WC.seq fun K55 hK55 => ?_
            refine WC.seq fun K56 hK56 => ?_
            refine WC.region ?_
            refine WL.pure (v := vI 0) 16 rfl (Nat.le_of_ble_eq_true rfl) rfl rfl (by kernel_rfl) ?_
            refine WL.nil ?_
            refine WQ.then ?_
            refine hK56 _ _ _ ?_
            refine WC.block ?_
            refine WC.loop (fun kk0 ll0 ww0 => ∃ (i : Nat), ll0 = [(10, .slice pv2 T.length cp2), (14, .slice pv3 ((sent B P).length) cp3), (16, vI (i : Int))] ∧ kk0 = T.length - i ∧ (i ≤ T.length) ∧ HP Tr w ww0 [.own (.slice pv1 B.length cp1) B.length (bL B) 4 1, .own (.slice pv2 T.length cp2) T.length (iL T) 3 1, .own (.slice pv3 (sent B P).length cp3) (sent B P).length (iL (sent B P)) 3 1]) (T.length) [(10, .slice pv2 T.length cp2), (14, .slice pv3 ((sent B P).length) cp3), (16, vI 0)] ⟨rfl, rfl, rfl, trivial⟩ ⟨0, rfl, rfl, Nat.zero_le _, hH54⟩ ?_
            rintro kk l w58 ⟨i, rfl, hkk, hi3, hH59⟩ K57 hK57
            refine WC.seq fun K60 hK60 => ?_
            refine WC.seq fun K61 hK61 => ?_
            refine WC.region ?_
            refine WL.pure (v := vI (i : Int)) 113 rfl (Nat.le_of_ble_eq_true rfl) rfl rfl (by kernel_rfl) ?_
            refine WL.pure (v := .slice pv2 T.length cp2) 114 rfl (Nat.le_of_ble_eq_true rfl) rfl rfl (by kernel_rfl) ?_
            refine WL.pure (v := vI (T.length : Int)) 115 rfl (Nat.le_of_ble_eq_true rfl) rfl rfl (by kernel_rfl) ?_
            by_cases hlt3 : (i : Int) < (T.length : Int)
            ·
              refine WL.pure (v := .bool true) 116 rfl (Nat.le_of_ble_eq_true rfl) rfl rfl (x_lss rfl rfl rfl (dT (hlt3))) ?_
              refine WL.nil ?_
              refine WQ.then ?_
              refine hK61 _ _ _ ?_
              refine WC.yes rfl ?_
              refine WC.skip ?_
              refine WQ.then ?_
              refine hK60 _ _ _ ?_
              refine WC.seq fun K62 hK62 => ?_
              refine WC.block ?_
              refine WC.seq fun K63 hK63 => ?_
              obtain ⟨gt, hgt⟩ := row_open1 (HP.get hH59 1 rfl) (by omega)
              subst hgt
              obtain ⟨gs, hgs⟩ := row_open1 (HP.get hH59 2 rfl) (by omega)
              subst hgs
              refine WC.still (by kernel_rfl) (by kernel_rfl) ?_
              have hH64 : HP Tr w _ [.own (.slice pv1 B.length cp1) B.length (bL B) 4 1, .own (.slice (some ⟨gt, 0, none⟩) T.length cp2) T.length (iL T) 3 1, .own (.slice (some ⟨gs, 0, none⟩) (sent B P).length cp3) (sent B P).length (iL (sent B P)) 3 1] := HP.drew hH59
              refine WS.val (v := vS gt T.length cp2) 119 rfl (Nat.le_of_ble_eq_true rfl) rfl rfl (by kernel_rfl) ?_
              refine WS.val (v := vI (i : Int)) 120 rfl (Nat.le_of_ble_eq_true rfl) rfl rfl (by kernel_rfl) ?_
              refine WS.val (v := vP gt i) 121 rfl (Nat.le_of_ble_eq_true rfl) rfl rfl (x_idx (i) (i) rfl rfl rfl Try.underlying58 sz3 (by omega) (by omega) (by omega)) ?_
              refine WS.val (v := vI (T.getD i 0)) 122 rfl (Nat.le_of_ble_eq_true rfl) rfl rfl (x_load rfl rfl Try.underlying3 rfl (ownI (HP.get hH64 1 rfl) (by omega))) ?_
              refine WS.val (v := vS gs ((sent B P).length) cp3) 123 rfl (Nat.le_of_ble_eq_true rfl) rfl rfl (by kernel_rfl) ?_
              refine WS.val (v := vI (i : Int)) 124 rfl (Nat.le_of_ble_eq_true rfl) rfl rfl (by kernel_rfl) ?_
              refine WS.val (v := vP gs i) 125 rfl (Nat.le_of_ble_eq_true rfl) rfl rfl (x_idx (i) (i) rfl rfl rfl Try.underlying58 sz3 (by omega) (by omega) (by omega)) ?_
              refine WS.val (v := vI ((sent B P).getD i 0)) 126 rfl (Nat.le_of_ble_eq_true rfl) rfl rfl (x_load rfl rfl Try.underlying3 rfl (ownI (HP.get hH64 2 rfl) (by omega))) ?_
              refine WS.val (v := .bool false) 127 rfl (Nat.le_of_ble_eq_true rfl) rfl rfl (x_neq rfl rfl rfl (dF (fun h => h (hG.pre i (by omega))))) ?_
              refine WS.nilQ ?_
              refine WQ.then ?_
              refine hK63 _ _ _ ?_
              refine WC.sub (l' := [(10, vS gt T.length cp2), (14, vS gs ((sent B P).length) cp3), (16, vI (i : Int)), (116, .bool true), (127, .bool false)]) ⟨rfl, rfl, rfl, rfl, rfl, trivial⟩ ?_
              refine WC.no rfl ?_
              refine WC.skip ?_
              refine WQ.inNormal ?_
              refine WQ.then ?_
              refine hK62 _ _ _ ?_
              refine WC.region ?_
              refine WL.pure (v := vI (i : Int)) 117 rfl (Nat.le_of_ble_eq_true rfl) rfl rfl (by kernel_rfl) ?_
              refine WL.pure (v := vI ((i + 1 : Nat) : Int)) 118 rfl (Nat.le_of_ble_eq_true rfl) rfl rfl (x_add (Z := ((i + 1 : Nat) : Int)) rfl rfl rfl (by omega) (by omega) (by omega)) ?_
              refine WL.pure (v := vI ((i + 1 : Nat) : Int)) 16 rfl (Nat.le_of_ble_eq_true rfl) rfl rfl (by kernel_rfl) ?_
              refine WL.nil ?_
              refine WQ.sub (l' := [(10, vS gt T.length cp2), (14, vS gs ((sent B P).length) cp3), (16, vI ((i + 1 : Nat) : Int))]) ⟨rfl, rfl, rfl, trivial⟩ ?_
              refine WQ.then (hK57 _ _ _ (by omega) ⟨i + 1, rfl, rfl, by omega, hH64⟩)
            ·
              refine WL.pure (v := .bool false) 116 rfl (Nat.le_of_ble_eq_true rfl) rfl rfl (x_lss rfl rfl rfl (dF (hlt3))) ?_
              refine WL.nil ?_
              refine WQ.then ?_
              refine hK61 _ _ _ ?_
              refine WC.no rfl ?_
              refine WC.exit ?_
              refine WQ.thenExit ?_
              refine WQ.thenExit ?_
              refine WQ.inExit ?_
              refine WQ.then ?_
              refine hK55 _ _ _ ?_
              refine WC.seq fun K65 hK65 => ?_
              refine WC.region ?_
              refine WL.pure (v := .slice pv2 T.length cp2) 128 rfl (Nat.le_of_ble_eq_true rfl) rfl rfl (by kernel_rfl) ?_
              refine WL.call (f := 48) (args := #[.slice pv2 T.length cp2]) 129 rfl (Nat.le_of_ble_eq_true rfl) rfl rfl (by kernel_rfl) ?_
              refine (fedB_any pv2 cp2 T _ (HP.get hH59 1 rfl) (hG.wds hwd) (by omega)).mono ?_
              rintro e w66 ⟨rfl, hb67⟩
              refine ⟨_, rfl, ?_⟩
              have hH68 : HP Tr w _ [.own (.slice pv1 B.length cp1) B.length (bL B) 4 1, .own (.slice pv2 T.length cp2) T.length (iL T) 3 1, .own (.slice pv3 (sent B P).length cp3) (sent B P).length (iL (sent B P)) 3 1] := HP.call hH59 hb67
              refine WL.pure (v := .bool true) 130 rfl (Nat.le_of_ble_eq_true rfl) rfl rfl (by kernel_rfl) ?_
              refine WL.call (f := 46) (args := #[]) 131 rfl (Nat.le_of_ble_eq_true rfl) rfl rfl (by kernel_rfl) ?_
              refine (awake_any _).mono ?_
              rintro e w69 ⟨rfl, hb70⟩
              refine ⟨_, rfl, ?_⟩
              have hH71 : HP Tr w _ [.own (.slice pv1 B.length cp1) B.length (bL B) 4 1, .own (.slice pv2 T.length cp2) T.length (iL T) 3 1, .own (.slice pv3 (sent B P).length cp3) (sent B P).length (iL (sent B P)) 3 1] := HP.call hH68 hb70
              refine WL.pure (v := .bool true) 132 rfl (Nat.le_of_ble_eq_true rfl) rfl rfl (by kernel_rfl) ?_
              refine WL.pure (v := .bool true) 8 rfl (Nat.le_of_ble_eq_true rfl) rfl rfl (by kernel_rfl) ?_
              refine WL.nil ?_
              refine WQ.then ?_
              refine hK65 _ _ _ ?_
              refine WC.sub (l' := [(8, .bool true), (10, .slice pv2 T.length cp2), (14, .slice pv3 ((sent B P).length) cp3), (16, vI (i : Int)), (116, .bool false)]) ⟨rfl, rfl, rfl, rfl, rfl, trivial⟩ ?_
              refine WC.ret ?_
              refine WQ.ret1 8 rfl rfl ?_
              exact ⟨rfl, HP.below hH71⟩

theorem own : ownKnob Try.prog.godebug = none := by kernel_rfl
theorem laidOut : laidOutB Try.prog = true := by kernel_rfl

set_option maxRecDepth 100000 in
theorem lifted (os : Os) (started : os.Started) (H : Type) (enc : TypeId × Value → H) :
    ReturnsInHanded {} Try.checked os 9 .any (Rows.topQueuesSpec.pre6 enc Try.prog Try.f9 Rows.topQueuesRow.domain false) (Rows.topQueuesSpec.post enc Try.prog Try.f9 false true false false) := by
  refine returnsInHanded_of_change (C := Try.checked) own started (by kernel_rfl) Try.func9
    (ChangeSpec.witness6 (enc := enc) (C := Try.checked) false ⟨#[], #[.int .i64 0, .slice none 0 0, .int .i64 0, .slice none 0 0], []⟩ 8 (by kernel_rfl) (by kernel_rfl) (by kernel_rfl) (by kernel_rfl)) ?_
  intro W base args ds gs before hval0 hW hcnd _
  have hval : ∀ (j : Nat) t v, Try.f9.params[j]? = some t → args[j]? = some v → Value.okWide Try.prog W .any base t v := hval0
  have hW' := hW
  obtain ⟨p, q, hA0, hV, rfl, hfz, hnd⟩ := hW
  have hA : DataW.TrodAll enc Try.prog W 0 (fun _ => true) true Try.f9.params.toList args.toList ds p := hA0
  rw [Try.params9] at hA hval
  obtain ⟨v0, vs0, d0, ds0, p0, q0, hargs, rfl, rfl, h0, r0⟩ := trodAll_cons hA
  obtain ⟨v1, vs1, d1, ds1, p1, q1, rfl, rfl, rfl, h1, r1⟩ := trodAll_cons r0
  obtain ⟨v2, vs2, d2, ds2, p2, q2, rfl, rfl, rfl, h2, r2⟩ := trodAll_cons r1
  obtain ⟨v3, vs3, d3, ds3, p3, q3, rfl, rfl, rfl, h3, r3⟩ := trodAll_cons r2
  obtain ⟨rfl, rfl, rfl⟩ := trodAll_nil r3
  obtain rfl : args = #[v0, v1, v2, v3] := by cases args; simp_all
  obtain ⟨rfl, rfl⟩ := trodVars_none hV
  obtain ⟨a0, rfl, rfl, rfl, w0⟩ := open_int Try.underlying3 (hval 0 3 v0 rfl rfl) h0
  have k1 := h1
  have lt1 : ∀ x ∈ p1, x.block < W.heap.size := by obtain ⟨m, hm⟩ := k1; exact DataW.trod_lt m _ _ _ hm
  obtain ⟨b1, n1, cap1, rfl⟩ := okWide_slice Try.underlying58 (hval 1 58 v1 rfl rfl)
  obtain ⟨xs1, rfl, hc1, -, hrow1, hwi1⟩ := rowsI h1 lt1
  obtain ⟨a2, rfl, rfl, rfl, w2⟩ := open_int Try.underlying3 (hval 2 3 v2 rfl rfl) h2
  have k3 := h3
  have lt3 : ∀ x ∈ p3, x.block < W.heap.size := by obtain ⟨m, hm⟩ := k3; exact DataW.trod_lt m _ _ _ hm
  obtain ⟨b3, n3, cap3, rfl⟩ := okWide_slice Try.underlying58 (hval 3 58 v3 rfl rfl)
  obtain ⟨xs3, rfl, hc3, -, hrow3, hwi3⟩ := rowsI h3 lt3
  clear hA0 hval0
  refine (walk a0 b1 cap1 xs1 a2 b3 cap3 xs3 W w0 hc1 hrow1 hwi1 w2 hc3 hrow3 hwi3).mono fun e W' ⟨he, bel⟩ => ?_
  subst he
  exact ⟨_, rfl, _, _, _, [], _, [], hW', trodAll_mk1 (shut_bool Try.underlying4 _), (trodAll_cons_mk (shut_int Try.underlying3 w0) (trodAll_cons_mk (Below.trod laidOut (by kernel_rfl) (of_decide_eq_true (by kernel_rfl)) k1 bel lt1) (trodAll_cons_mk (shut_int Try.underlying3 w2) (trodAll_cons_mk (Below.trod laidOut (by kernel_rfl) (of_decide_eq_true (by kernel_rfl)) k3 bel lt3) trodAll_mk0)))), rfl, bel.frame _, fun h => by cases h⟩

theorem over : Rows.topQueuesRow.holds Try.pinned (OpenSpec.ofChange Rows.topQueuesSpec) :=
  OpenClaim.holds_of_wide 9 Try.f9 rfl rfl rfl rfl rfl rfl rfl ⟨rfl, rfl, rfl, rfl, rfl⟩ rfl rfl rfl rfl rfl (by kernel_rfl) Try.func9 (by kernel_rfl)
    (of_decide_eq_true (by kernel_rfl)) (by unfold Func.isWrapper; first | (rw [if_pos (by decide +kernel)]; kernel_rfl) | (rw [if_neg (by decide +kernel)]; exact ⟨rfl, rfl⟩))
    (fun os started H enc _ => lifted os started H enc)

/-- the statement -/
theorem proved : Rows.TopQueuesSaid := over
end Go.Proofs.Ytgdfbpphfanocaa.topQueues
