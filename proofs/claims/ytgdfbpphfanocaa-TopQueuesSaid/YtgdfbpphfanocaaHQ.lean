/- The queue of one writer and one reader: its steps. -/
import Derived.Test.YtgdfbpphfanocaaHC
set_option linter.unusedVariables false
set_option linter.unusedSimpArgs false
namespace Go.Proofs.Ytgdfbpphfanocaa
open Go.RowKit Fw
namespace Qu
open Lc (wd isWord_wd)
end Qu
namespace Fw
open Qu
open Lc (wd isWord_wd)
theorem WQ.ret4 {P : Program} {fn : Func} {R : Ending → World → Prop} {n : Nat} {l : List (Nat × Value)} {w : World} {v1 v2 v3 v4 : Value} (t1 t2 t3 t4 : Nat) (hr : fn.results = #[.tmp t1, .tmp t2, .tmp t3, .tmp t4]) (h1 : Fw.look l t1 = some v1) (h2 : Fw.look l t2 = some v2) (h3 : Fw.look l t3 = some v3) (h4 : Fw.look l t4 = some v4) (hR : R (.returned (.tuple #[v1, v2, v3, v4])) w) : WQ (bodyPost P fn R) .ret n l w :=
  fun a ha => bodyPost_ret (v := .tuple #[v1, v2, v3, v4]) (by
    have e1 := ha.getD h1
    have e2 := ha.getD h2
    have e3 := ha.getD h3
    have e4 := ha.getD h4
    simp [results, hr] at e1 e2 e3 e4 ⊢
    simp [e1, e2, e3, e4]) ha.df hR
end Fw
namespace Qu
open Lc (wd isWord_wd)
theorem tmod_nn {a n : Int} (h : 0 ≤ a) : a.tmod n = a % n := Int.tmod_eq_emod_of_nonneg h
abbrev QB (q c n : Nat) (C : Nat → Int) (h t p k : Nat) (wo tk : Int) : List Ent := [.cel q #[.slice (some ⟨c, 0, none⟩) n n, vI (h : Int), vI (t : Int), vI (p : Int), vI (k : Int), vI wo, vI tk] 129, .cel c (irow n C) 3]
theorem sz3 : (Try.prog.info? 3).map (·.size) = some 1 := by kernel_rfl
set_option maxRecDepth 20000 in
set_option maxHeartbeats 4000000 in
theorem qnone_any (q c n : Nat) (w : World) (hc : w.cell? ⟨q, 0, none⟩ = some (.slice (some ⟨c, 0, none⟩) n n)) (hn : 2 ≤ n ∧ n ≤ 9) :
    Calls Try.prog 96 #[vP q 0] w fun e w' => e = .returned (.bool false) ∧ w = w' := by
  refine calls_of Try.func96 rfl (m := 13) rfl [(0, vP q 0)] (Fr_enter [vP q 0] 13 (Nat.le_of_ble_eq_true rfl)) ?_
  have hH1 : HP Tr w w [] := HP.refl w
  refine WC.seq fun K2 hK2 => ?_
  refine WC.region ?_
  refine WL.pure (v := .bool false) 2 rfl (Nat.le_of_ble_eq_true rfl) rfl rfl (by kernel_rfl) ?_
  refine WL.nil ?_
  refine WQ.then ?_
  refine hK2 _ _ _ ?_
  refine WC.seq fun K3 hK3 => ?_
  refine WC.region ?_
  refine WL.pure (v := vP q 0) 3 rfl (Nat.le_of_ble_eq_true rfl) rfl rfl (by kernel_rfl) ?_
  refine WL.pure (v := .bool false) 4 rfl (Nat.le_of_ble_eq_true rfl) rfl rfl (by kernel_rfl) ?_
  refine WL.pure (v := .bool false) 5 rfl (Nat.le_of_ble_eq_true rfl) rfl rfl (by kernel_rfl) ?_
  refine WL.pure (v := vP q 0) 6 rfl (Nat.le_of_ble_eq_true rfl) rfl rfl (by kernel_rfl) ?_
  refine WL.pure (v := vP q 0) 7 rfl (Nat.le_of_ble_eq_true rfl) rfl rfl (by kernel_rfl) ?_
  refine WL.pure (v := vP q 0) 8 rfl (Nat.le_of_ble_eq_true rfl) rfl rfl (by kernel_rfl) ?_
  refine WL.pure (v := vS c n n) 9 rfl (Nat.le_of_ble_eq_true rfl) rfl rfl (x_load rfl rfl Try.underlying58 rfl hc) ?_
  refine WL.pure (v := vI (n : Int)) 10 rfl (Nat.le_of_ble_eq_true rfl) rfl rfl (by kernel_rfl) ?_
  refine WL.pure (v := .bool false) 11 rfl (Nat.le_of_ble_eq_true rfl) rfl rfl (x_eql rfl rfl rfl (dF (by omega))) ?_
  refine WL.pure (v := .bool false) 12 rfl (Nat.le_of_ble_eq_true rfl) rfl rfl (by kernel_rfl) ?_
  refine WL.pure (v := .bool false) 2 rfl (Nat.le_of_ble_eq_true rfl) rfl rfl (by kernel_rfl) ?_
  refine WL.nil ?_
  refine WQ.then ?_
  refine hK3 _ _ _ ?_
  refine WC.sub (l' := [(0, vP q 0), (2, .bool false)]) ⟨rfl, rfl, trivial⟩ ?_
  refine WC.ret ?_
  refine WQ.ret1 2 rfl rfl ?_
  exact ⟨rfl, rfl⟩
set_option maxRecDepth 20000 in
set_option maxHeartbeats 4000000 in
theorem behind_any (q c n i j : Nat) (w : World) (hc : w.cell? ⟨q, 0, none⟩ = some (.slice (some ⟨c, 0, none⟩) n n)) (hn : 2 ≤ n ∧ n ≤ 9) (hi : i < n) (hj : (i + 1) % n = j) :
    Calls Try.prog 98 #[vP q 0, vI (i : Int)] w fun e w' => e = .returned (vI (j : Int)) ∧ w = w' := by
  refine calls_of Try.func98 rfl (m := 13) rfl [(0, vP q 0), (1, vI (i : Int))] (Fr_enter [vP q 0, vI (i : Int)] 13 (Nat.le_of_ble_eq_true rfl)) ?_
  have hH1 : HP Tr w w [] := HP.refl w
  refine WC.seq fun K2 hK2 => ?_
  refine WC.region ?_
  refine WL.pure (v := vI 0) 4 rfl (Nat.le_of_ble_eq_true rfl) rfl rfl (by kernel_rfl) ?_
  refine WL.nil ?_
  refine WQ.then ?_
  refine hK2 _ _ _ ?_
  refine WC.seq fun K3 hK3 => ?_
  refine WC.region ?_
  refine WL.pure (v := vI (i : Int)) 5 rfl (Nat.le_of_ble_eq_true rfl) rfl rfl (by kernel_rfl) ?_
  refine WL.pure (v := vI ((i + 1 : Nat) : Int)) 6 rfl (Nat.le_of_ble_eq_true rfl) rfl rfl (x_add (Z := ((i + 1 : Nat) : Int)) rfl rfl rfl (by omega) (by omega) (by omega)) ?_
  refine WL.pure (v := vP q 0) 7 rfl (Nat.le_of_ble_eq_true rfl) rfl rfl (by kernel_rfl) ?_
  refine WL.pure (v := vP q 0) 8 rfl (Nat.le_of_ble_eq_true rfl) rfl rfl (by kernel_rfl) ?_
  refine WL.pure (v := vP q 0) 9 rfl (Nat.le_of_ble_eq_true rfl) rfl rfl (by kernel_rfl) ?_
  refine WL.pure (v := vS c n n) 10 rfl (Nat.le_of_ble_eq_true rfl) rfl rfl (x_load rfl rfl Try.underlying58 rfl hc) ?_
  refine WL.pure (v := vI (n : Int)) 11 rfl (Nat.le_of_ble_eq_true rfl) rfl rfl (by kernel_rfl) ?_
  refine WL.pure (v := vI (j : Int)) 12 rfl (Nat.le_of_ble_eq_true rfl) rfl rfl (x_rem (Z := (j : Int)) rfl rfl rfl (by omega) (by rw [tmod_nn (by omega), ← hj]; rfl)) ?_
  refine WL.pure (v := vI (j : Int)) 4 rfl (Nat.le_of_ble_eq_true rfl) rfl rfl (by kernel_rfl) ?_
  refine WL.nil ?_
  refine WQ.then ?_
  refine hK3 _ _ _ ?_
  refine WC.sub (l' := [(0, vP q 0), (1, vI (i : Int)), (4, vI (j : Int))]) ⟨rfl, rfl, rfl, trivial⟩ ?_
  refine WC.ret ?_
  refine WQ.ret1 4 rfl rfl ?_
  exact ⟨rfl, rfl⟩
set_option maxRecDepth 20000 in
set_option maxHeartbeats 4000000 in
theorem qword_any (x : Int) (w : World) (hw : wd x = true) :
    Calls Try.prog 76 #[vI x] w fun e w' => e = .returned (.bool true) ∧ w = w' := by
  have hx := Lc.wd_t hw
  refine calls_of Try.func76 rfl (m := 9) rfl [(0, vI x)] (Fr_enter [vI x] 9 (Nat.le_of_ble_eq_true rfl)) ?_
  have hH1 : HP Tr w w [] := HP.refl w
  refine WC.seq fun K2 hK2 => ?_
  refine WC.region ?_
  refine WL.pure (v := .bool false) 2 rfl (Nat.le_of_ble_eq_true rfl) rfl rfl (by kernel_rfl) ?_
  refine WL.nil ?_
  refine WQ.then ?_
  refine hK2 _ _ _ ?_
  refine WC.seq fun K3 hK3 => ?_
  refine WC.region ?_
  refine WL.pure (v := vI x) 3 rfl (Nat.le_of_ble_eq_true rfl) rfl rfl (by kernel_rfl) ?_
  refine WL.pure (v := .bool true) 4 rfl (Nat.le_of_ble_eq_true rfl) rfl rfl (x_geq rfl rfl rfl (dT (by omega))) ?_
  refine WL.pure (v := .bool true) 5 rfl (Nat.le_of_ble_eq_true rfl) rfl rfl (by kernel_rfl) ?_
  refine WL.pure (v := vI x) 6 rfl (Nat.le_of_ble_eq_true rfl) rfl rfl (by kernel_rfl) ?_
  refine WL.pure (v := .bool true) 7 rfl (Nat.le_of_ble_eq_true rfl) rfl rfl (x_leq rfl rfl rfl (dT (by omega))) ?_
  refine WL.pure (v := .bool true) 8 rfl (Nat.le_of_ble_eq_true rfl) rfl rfl (by kernel_rfl) ?_
  refine WL.pure (v := .bool true) 2 rfl (Nat.le_of_ble_eq_true rfl) rfl rfl (by kernel_rfl) ?_
  refine WL.nil ?_
  refine WQ.then ?_
  refine hK3 _ _ _ ?_
  refine WC.sub (l' := [(0, vI x), (2, .bool true)]) ⟨rfl, rfl, trivial⟩ ?_
  refine WC.ret ?_
  refine WQ.ret1 2 rfl rfl ?_
  exact ⟨rfl, rfl⟩
set_option maxRecDepth 20000 in
set_option maxHeartbeats 4000000 in
theorem qword_no (x : Int) (w : World) (hw : wd x = false) :
    Calls Try.prog 76 #[vI x] w fun e w' => e = .returned (.bool false) ∧ w = w' := by
  have hx : ¬ (-2147483648 ≤ x ∧ x ≤ 2147483647) := fun h => by unfold Lc.wd at hw; simp at hw; omega
  refine calls_of Try.func76 rfl (m := 9) rfl [(0, vI x)] (Fr_enter [vI x] 9 (Nat.le_of_ble_eq_true rfl)) ?_
  have hH1 : HP Tr w w [] := HP.refl w
  refine WC.seq fun K2 hK2 => ?_
  refine WC.region ?_
  refine WL.pure (v := .bool false) 2 rfl (Nat.le_of_ble_eq_true rfl) rfl rfl (by kernel_rfl) ?_
  refine WL.nil ?_
  refine WQ.then ?_
  refine hK2 _ _ _ ?_
  refine WC.seq fun K3 hK3 => ?_
  refine WC.region ?_
  refine WL.pure (v := vI x) 3 rfl (Nat.le_of_ble_eq_true rfl) rfl rfl (by kernel_rfl) ?_
  by_cases h1 : (-2147483648 : Int) ≤ x
  ·
    refine WL.pure (v := .bool true) 4 rfl (Nat.le_of_ble_eq_true rfl) rfl rfl (x_geq rfl rfl rfl (dT (h1))) ?_
    refine WL.pure (v := .bool true) 5 rfl (Nat.le_of_ble_eq_true rfl) rfl rfl (by kernel_rfl) ?_
    refine WL.pure (v := vI x) 6 rfl (Nat.le_of_ble_eq_true rfl) rfl rfl (by kernel_rfl) ?_
    refine WL.pure (v := .bool false) 7 rfl (Nat.le_of_ble_eq_true rfl) rfl rfl (x_leq rfl rfl rfl (dF (by omega))) ?_
    refine WL.pure (v := .bool false) 8 rfl (Nat.le_of_ble_eq_true rfl) rfl rfl (by kernel_rfl) ?_
    refine WL.pure (v := .bool false) 2 rfl (Nat.le_of_ble_eq_true rfl) rfl rfl (by kernel_rfl) ?_
    refine WL.nil ?_
    refine WQ.then ?_
    refine hK3 _ _ _ ?_
    refine WC.sub (l' := [(0, vI x), (2, .bool false)]) ⟨rfl, rfl, trivial⟩ ?_
    refine WC.ret ?_
    refine WQ.ret1 2 rfl rfl ?_
    exact ⟨rfl, rfl⟩
  ·
    refine WL.pure (v := .bool false) 4 rfl (Nat.le_of_ble_eq_true rfl) rfl rfl (x_geq rfl rfl rfl (dF (h1))) ?_
    refine WL.pure (v := .bool false) 5 rfl (Nat.le_of_ble_eq_true rfl) rfl rfl (by kernel_rfl) ?_
    refine WL.pass 6 rfl (Nat.le_of_ble_eq_true rfl) rfl ?_
    refine WL.pass 7 rfl (Nat.le_of_ble_eq_true rfl) rfl ?_
    refine WL.pure (v := .bool false) 8 rfl (Nat.le_of_ble_eq_true rfl) rfl rfl (by kernel_rfl) ?_
    refine WL.pure (v := .bool false) 2 rfl (Nat.le_of_ble_eq_true rfl) rfl rfl (by kernel_rfl) ?_
    refine WL.nil ?_
    refine WQ.then ?_
    refine hK3 _ _ _ ?_
    refine WC.sub (l' := [(0, vI x), (2, .bool false)]) ⟨rfl, rfl, trivial⟩ ?_
    refine WC.ret ?_
    refine WQ.ret1 2 rfl rfl ?_
    exact ⟨rfl, rfl⟩
set_option maxRecDepth 20000 in
set_option maxHeartbeats 4000000 in
theorem StepPut_1f (q c n : Nat) (C : Nat → Int) (h t k : Nat) (wo tk : Int) (w : World) (hB : OwnB w (QB q c n C h t 1 k wo tk)) (hn : 2 ≤ n ∧ n ≤ 9) (hh : h < n) (ht : t < n) (hf : (t + 1) % n = h) :
    Calls Try.prog 79 #[vP q 0] w fun e w' => e = .returned (.tuple #[.bool true, .bool false, vI 0]) ∧ HP (Out (QB q c n C h t 1 k wo tk)) w w' (QB q c n C h t 0 k wo tk) := by
  refine calls_of Try.func79 rfl (m := 65) rfl [(0, vP q 0)] (Fr_enter [vP q 0] 65 (Nat.le_of_ble_eq_true rfl)) ?_
  refine WC.seq fun K1 hK1 => ?_
  refine WC.region ?_
  refine WL.pure (v := .bool false) 2 rfl (Nat.le_of_ble_eq_true rfl) rfl rfl (by kernel_rfl) ?_
  refine WL.pure (v := .bool false) 3 rfl (Nat.le_of_ble_eq_true rfl) rfl rfl (by kernel_rfl) ?_
  refine WL.pure (v := vI 0) 4 rfl (Nat.le_of_ble_eq_true rfl) rfl rfl (by kernel_rfl) ?_
  refine WL.nil ?_
  refine WQ.then ?_
  refine hK1 _ _ _ ?_
  refine WC.seq fun K2 hK2 => ?_
  refine WC.seq fun K3 hK3 => ?_
  refine WC.region ?_
  refine WL.pure (v := vP q 0) 5 rfl (Nat.le_of_ble_eq_true rfl) rfl rfl (by kernel_rfl) ?_
  refine WL.call (f := 96) (args := #[vP q 0]) 6 rfl (Nat.le_of_ble_eq_true rfl) rfl rfl (by kernel_rfl) ?_
  refine (qnone_any q c n _ (HP.cell (HP.startB hB) 0 rfl rfl) hn).mono ?_
  rintro e w4 ⟨rfl, rfl⟩
  refine ⟨_, rfl, ?_⟩
  refine WL.nil ?_
  refine WQ.then ?_
  refine hK3 _ _ _ ?_
  refine WC.no rfl ?_
  refine WC.skip ?_
  refine WQ.then ?_
  refine hK2 _ _ _ ?_
  refine WC.seq fun K5 hK5 => ?_
  refine WC.seq fun K6 hK6 => ?_
  refine WC.region ?_
  refine WL.pure (v := vP q 0) 7 rfl (Nat.le_of_ble_eq_true rfl) rfl rfl (by kernel_rfl) ?_
  refine WL.pure (v := vP q 0) 8 rfl (Nat.le_of_ble_eq_true rfl) rfl rfl (by kernel_rfl) ?_
  refine WL.pure (v := vP q 3) 9 rfl (Nat.le_of_ble_eq_true rfl) rfl rfl (by kernel_rfl) ?_
  refine WL.pure (v := vI 1) 10 rfl (Nat.le_of_ble_eq_true rfl) rfl rfl (x_load rfl rfl Try.underlying3 rfl (HP.cell (HP.startB hB) 0 rfl rfl)) ?_
  refine WL.nil ?_
  refine WQ.then ?_
  refine hK6 _ _ _ ?_
  refine WC.block ?_
  refine WC.seq fun K7 hK7 => ?_
  refine WC.region ?_
  refine WL.pure (v := .bool false) 12 rfl (Nat.le_of_ble_eq_true rfl) rfl rfl (x_eql rfl rfl rfl (by decide)) ?_
  refine WL.pure (v := .bool false) 11 rfl (Nat.le_of_ble_eq_true rfl) rfl rfl (by kernel_rfl) ?_
  refine WL.nil ?_
  refine WQ.then ?_
  refine hK7 _ _ _ ?_
  refine WC.no rfl ?_
  refine WC.seq fun K8 hK8 => ?_
  refine WC.region ?_
  refine WL.pure (v := .bool true) 14 rfl (Nat.le_of_ble_eq_true rfl) rfl rfl (x_eql rfl rfl rfl (by decide)) ?_
  refine WL.pure (v := .bool true) 13 rfl (Nat.le_of_ble_eq_true rfl) rfl rfl (by kernel_rfl) ?_
  refine WL.nil ?_
  refine WQ.then ?_
  refine hK8 _ _ _ ?_
  refine WC.sub (l' := [(0, vP q 0), (2, .bool false), (3, .bool false), (4, vI 0), (6, .bool false), (10, vI 1), (11, .bool false), (13, .bool true)]) ⟨rfl, rfl, rfl, rfl, rfl, rfl, rfl, rfl, trivial⟩ ?_
  refine WC.yes rfl ?_
  refine WC.seq fun K9 hK9 => ?_
  refine WC.still (by kernel_rfl) (by kernel_rfl) ?_
  have hH10 : HP (Out (QB q c n C h t 1 k wo tk)) w _ [.cel q #[.slice (some ⟨c, 0, none⟩) n n, vI (h : Int), vI (t : Int), vI 1, vI (k : Int), vI wo, vI tk] 129, .cel c (irow n C) 3] := HP.drew (HP.startB hB)
  refine WS.val (v := vP q 0) 15 rfl (Nat.le_of_ble_eq_true rfl) rfl rfl (by kernel_rfl) ?_
  refine WS.val (v := vP q 0) 16 rfl (Nat.le_of_ble_eq_true rfl) rfl rfl (by kernel_rfl) ?_
  refine WS.val (v := vP q 0) 17 rfl (Nat.le_of_ble_eq_true rfl) rfl rfl (by kernel_rfl) ?_
  refine WS.val (v := vP q 2) 18 rfl (Nat.le_of_ble_eq_true rfl) rfl rfl (by kernel_rfl) ?_
  refine WS.val (v := vI (t : Int)) 19 rfl (Nat.le_of_ble_eq_true rfl) rfl rfl (x_load rfl rfl Try.underlying3 rfl (HP.cell hH10 0 rfl rfl)) ?_
  refine WS.call (v := vI (h : Int)) (f := 98) (args := #[vP q 0, vI (t : Int)]) 20 rfl (Nat.le_of_ble_eq_true rfl) rfl rfl (by kernel_rfl) ((behind_any q c n t h _ (HP.cell hH10 0 rfl rfl) hn ht hf).mono fun e w2 h => ⟨h.1, h.2.symm⟩) ?_
  refine WS.val (v := vP q 0) 21 rfl (Nat.le_of_ble_eq_true rfl) rfl rfl (by kernel_rfl) ?_
  refine WS.val (v := vP q 0) 22 rfl (Nat.le_of_ble_eq_true rfl) rfl rfl (by kernel_rfl) ?_
  refine WS.val (v := vP q 1) 23 rfl (Nat.le_of_ble_eq_true rfl) rfl rfl (by kernel_rfl) ?_
  refine WS.val (v := vI (h : Int)) 24 rfl (Nat.le_of_ble_eq_true rfl) rfl rfl (x_load rfl rfl Try.underlying3 rfl (HP.cell hH10 0 rfl rfl)) ?_
  refine WS.val (v := .bool true) 25 rfl (Nat.le_of_ble_eq_true rfl) rfl rfl (x_eql rfl rfl rfl (dT (rfl))) ?_
  refine WS.nilQ ?_
  refine WQ.then ?_
  refine hK9 _ _ _ ?_
  refine WC.sub (l' := [(0, vP q 0), (2, .bool false), (3, .bool false), (4, vI 0), (6, .bool false), (10, vI 1), (11, .bool false), (13, .bool true), (25, .bool true)]) ⟨rfl, rfl, rfl, rfl, rfl, rfl, rfl, rfl, rfl, trivial⟩ ?_
  refine WC.yes rfl ?_
  refine WC.seq fun K11 hK11 => ?_
  refine WC.region ?_
  refine WL.pure (v := vP q 0) 26 rfl (Nat.le_of_ble_eq_true rfl) rfl rfl (by kernel_rfl) ?_
  refine WL.pure (v := vP q 0) 27 rfl (Nat.le_of_ble_eq_true rfl) rfl rfl (by kernel_rfl) ?_
  refine WL.pure (v := vP q 3) 28 rfl (Nat.le_of_ble_eq_true rfl) rfl rfl (by kernel_rfl) ?_
  refine WL.store (H2 := [.cel q #[.slice (some ⟨c, 0, none⟩) n n, vI (h : Int), vI (t : Int), vI 0, vI (k : Int), vI wo, vI tk] 129, .cel c (irow n C) 3]) 0 hH10 rfl rfl rfl rfl rfl rfl sz3 rfl (Nat.le_of_ble_eq_true rfl) rfl rfl ?_
  intro w12 hH13
  refine WL.nil ?_
  refine WQ.then ?_
  refine hK11 _ _ _ ?_
  refine WC.seq fun K14 hK14 => ?_
  refine WC.region ?_
  refine WL.pure (v := .bool true) 2 rfl (Nat.le_of_ble_eq_true rfl) rfl rfl (by kernel_rfl) ?_
  refine WL.pure (v := .bool false) 3 rfl (Nat.le_of_ble_eq_true rfl) rfl rfl (by kernel_rfl) ?_
  refine WL.pure (v := vI 0) 4 rfl (Nat.le_of_ble_eq_true rfl) rfl rfl (by kernel_rfl) ?_
  refine WL.nil ?_
  refine WQ.then ?_
  refine hK14 _ _ _ ?_
  refine WC.sub (l' := [(0, vP q 0), (2, .bool true), (3, .bool false), (4, vI 0), (6, .bool false), (10, vI 1), (11, .bool false), (13, .bool true), (25, .bool true)]) ⟨rfl, rfl, rfl, rfl, rfl, rfl, rfl, rfl, rfl, trivial⟩ ?_
  refine WC.ret ?_
  refine WQ.inRet ?_
  refine WQ.thenRet ?_
  refine WQ.ret3 2 3 4 rfl rfl rfl rfl ?_
  exact ⟨rfl, hH13⟩
set_option maxRecDepth 20000 in
set_option maxHeartbeats 4000000 in
theorem StepPut_1r (q c n : Nat) (C : Nat → Int) (h t k : Nat) (wo tk : Int) (t2 : Nat) (w : World) (hB : OwnB w (QB q c n C h t 1 k wo tk)) (hn : 2 ≤ n ∧ n ≤ 9) (hh : h < n) (ht : t < n) (hf : (t + 1) % n = t2) (hr : t2 ≠ h) :
    Calls Try.prog 79 #[vP q 0] w fun e w' => e = .returned (.tuple #[.bool false, .bool false, vI 0]) ∧ HP (Out (QB q c n C h t 1 k wo tk)) w w' (QB q c n C h t 2 k wo tk) := by
  refine calls_of Try.func79 rfl (m := 65) rfl [(0, vP q 0)] (Fr_enter [vP q 0] 65 (Nat.le_of_ble_eq_true rfl)) ?_
  refine WC.seq fun K1 hK1 => ?_
  refine WC.region ?_
  refine WL.pure (v := .bool false) 2 rfl (Nat.le_of_ble_eq_true rfl) rfl rfl (by kernel_rfl) ?_
  refine WL.pure (v := .bool false) 3 rfl (Nat.le_of_ble_eq_true rfl) rfl rfl (by kernel_rfl) ?_
  refine WL.pure (v := vI 0) 4 rfl (Nat.le_of_ble_eq_true rfl) rfl rfl (by kernel_rfl) ?_
  refine WL.nil ?_
  refine WQ.then ?_
  refine hK1 _ _ _ ?_
  refine WC.seq fun K2 hK2 => ?_
  refine WC.seq fun K3 hK3 => ?_
  refine WC.region ?_
  refine WL.pure (v := vP q 0) 5 rfl (Nat.le_of_ble_eq_true rfl) rfl rfl (by kernel_rfl) ?_
  refine WL.call (f := 96) (args := #[vP q 0]) 6 rfl (Nat.le_of_ble_eq_true rfl) rfl rfl (by kernel_rfl) ?_
  refine (qnone_any q c n _ (HP.cell (HP.startB hB) 0 rfl rfl) hn).mono ?_
  rintro e w4 ⟨rfl, rfl⟩
  refine ⟨_, rfl, ?_⟩
  refine WL.nil ?_
  refine WQ.then ?_
  refine hK3 _ _ _ ?_
  refine WC.no rfl ?_
  refine WC.skip ?_
  refine WQ.then ?_
  refine hK2 _ _ _ ?_
  refine WC.seq fun K5 hK5 => ?_
  refine WC.seq fun K6 hK6 => ?_
  refine WC.region ?_
  refine WL.pure (v := vP q 0) 7 rfl (Nat.le_of_ble_eq_true rfl) rfl rfl (by kernel_rfl) ?_
  refine WL.pure (v := vP q 0) 8 rfl (Nat.le_of_ble_eq_true rfl) rfl rfl (by kernel_rfl) ?_
  refine WL.pure (v := vP q 3) 9 rfl (Nat.le_of_ble_eq_true rfl) rfl rfl (by kernel_rfl) ?_
  refine WL.pure (v := vI 1) 10 rfl (Nat.le_of_ble_eq_true rfl) rfl rfl (x_load rfl rfl Try.underlying3 rfl (HP.cell (HP.startB hB) 0 rfl rfl)) ?_
  refine WL.nil ?_
  refine WQ.then ?_
  refine hK6 _ _ _ ?_
  refine WC.block ?_
  refine WC.seq fun K7 hK7 => ?_
  refine WC.region ?_
  refine WL.pure (v := .bool false) 12 rfl (Nat.le_of_ble_eq_true rfl) rfl rfl (x_eql rfl rfl rfl (by decide)) ?_
  refine WL.pure (v := .bool false) 11 rfl (Nat.le_of_ble_eq_true rfl) rfl rfl (by kernel_rfl) ?_
  refine WL.nil ?_
  refine WQ.then ?_
  refine hK7 _ _ _ ?_
  refine WC.no rfl ?_
  refine WC.seq fun K8 hK8 => ?_
  refine WC.region ?_
  refine WL.pure (v := .bool true) 14 rfl (Nat.le_of_ble_eq_true rfl) rfl rfl (x_eql rfl rfl rfl (by decide)) ?_
  refine WL.pure (v := .bool true) 13 rfl (Nat.le_of_ble_eq_true rfl) rfl rfl (by kernel_rfl) ?_
  refine WL.nil ?_
  refine WQ.then ?_
  refine hK8 _ _ _ ?_
  refine WC.sub (l' := [(0, vP q 0), (2, .bool false), (3, .bool false), (4, vI 0), (6, .bool false), (10, vI 1), (11, .bool false), (13, .bool true)]) ⟨rfl, rfl, rfl, rfl, rfl, rfl, rfl, rfl, trivial⟩ ?_
  refine WC.yes rfl ?_
  refine WC.seq fun K9 hK9 => ?_
  refine WC.still (by kernel_rfl) (by kernel_rfl) ?_
  have hH10 : HP (Out (QB q c n C h t 1 k wo tk)) w _ [.cel q #[.slice (some ⟨c, 0, none⟩) n n, vI (h : Int), vI (t : Int), vI 1, vI (k : Int), vI wo, vI tk] 129, .cel c (irow n C) 3] := HP.drew (HP.startB hB)
  refine WS.val (v := vP q 0) 15 rfl (Nat.le_of_ble_eq_true rfl) rfl rfl (by kernel_rfl) ?_
  refine WS.val (v := vP q 0) 16 rfl (Nat.le_of_ble_eq_true rfl) rfl rfl (by kernel_rfl) ?_
  refine WS.val (v := vP q 0) 17 rfl (Nat.le_of_ble_eq_true rfl) rfl rfl (by kernel_rfl) ?_
  refine WS.val (v := vP q 2) 18 rfl (Nat.le_of_ble_eq_true rfl) rfl rfl (by kernel_rfl) ?_
  refine WS.val (v := vI (t : Int)) 19 rfl (Nat.le_of_ble_eq_true rfl) rfl rfl (x_load rfl rfl Try.underlying3 rfl (HP.cell hH10 0 rfl rfl)) ?_
  refine WS.call (v := vI (t2 : Int)) (f := 98) (args := #[vP q 0, vI (t : Int)]) 20 rfl (Nat.le_of_ble_eq_true rfl) rfl rfl (by kernel_rfl) ((behind_any q c n t t2 _ (HP.cell hH10 0 rfl rfl) hn ht hf).mono fun e w2 h => ⟨h.1, h.2.symm⟩) ?_
  refine WS.val (v := vP q 0) 21 rfl (Nat.le_of_ble_eq_true rfl) rfl rfl (by kernel_rfl) ?_
  refine WS.val (v := vP q 0) 22 rfl (Nat.le_of_ble_eq_true rfl) rfl rfl (by kernel_rfl) ?_
  refine WS.val (v := vP q 1) 23 rfl (Nat.le_of_ble_eq_true rfl) rfl rfl (by kernel_rfl) ?_
  refine WS.val (v := vI (h : Int)) 24 rfl (Nat.le_of_ble_eq_true rfl) rfl rfl (x_load rfl rfl Try.underlying3 rfl (HP.cell hH10 0 rfl rfl)) ?_
  refine WS.val (v := .bool false) 25 rfl (Nat.le_of_ble_eq_true rfl) rfl rfl (x_eql rfl rfl rfl (dF (by omega))) ?_
  refine WS.nilQ ?_
  refine WQ.then ?_
  refine hK9 _ _ _ ?_
  refine WC.sub (l' := [(0, vP q 0), (2, .bool false), (3, .bool false), (4, vI 0), (6, .bool false), (10, vI 1), (11, .bool false), (13, .bool true), (25, .bool false)]) ⟨rfl, rfl, rfl, rfl, rfl, rfl, rfl, rfl, rfl, trivial⟩ ?_
  refine WC.no rfl ?_
  refine WC.skip ?_
  refine WQ.inNormal ?_
  refine WQ.then ?_
  refine hK5 _ _ _ ?_
  refine WC.seq fun K11 hK11 => ?_
  refine WC.region ?_
  refine WL.pure (v := vP q 0) 58 rfl (Nat.le_of_ble_eq_true rfl) rfl rfl (by kernel_rfl) ?_
  refine WL.pure (v := vP q 0) 59 rfl (Nat.le_of_ble_eq_true rfl) rfl rfl (by kernel_rfl) ?_
  refine WL.pure (v := vP q 3) 60 rfl (Nat.le_of_ble_eq_true rfl) rfl rfl (by kernel_rfl) ?_
  refine WL.pure (v := vI 1) 61 rfl (Nat.le_of_ble_eq_true rfl) rfl rfl (x_load rfl rfl Try.underlying3 rfl (HP.cell hH10 0 rfl rfl)) ?_
  refine WL.pure (v := vI 2) 62 rfl (Nat.le_of_ble_eq_true rfl) rfl rfl (x_add (Z := 2) rfl rfl rfl (by omega) (by omega) (by omega)) ?_
  refine WL.pure (v := vP q 0) 63 rfl (Nat.le_of_ble_eq_true rfl) rfl rfl (by kernel_rfl) ?_
  refine WL.pure (v := vP q 3) 64 rfl (Nat.le_of_ble_eq_true rfl) rfl rfl (by kernel_rfl) ?_
  refine WL.store (H2 := [.cel q #[.slice (some ⟨c, 0, none⟩) n n, vI (h : Int), vI (t : Int), vI 2, vI (k : Int), vI wo, vI tk] 129, .cel c (irow n C) 3]) 0 hH10 rfl rfl rfl rfl rfl rfl sz3 rfl (Nat.le_of_ble_eq_true rfl) rfl rfl ?_
  intro w12 hH13
  refine WL.nil ?_
  refine WQ.then ?_
  refine hK11 _ _ _ ?_
  refine WC.sub (l' := [(0, vP q 0), (2, .bool false), (3, .bool false), (4, vI 0), (6, .bool false), (10, vI 1), (11, .bool false), (13, .bool true), (25, .bool false)]) ⟨rfl, rfl, rfl, rfl, rfl, rfl, rfl, rfl, rfl, trivial⟩ ?_
  refine WC.seq fun K14 hK14 => ?_
  refine WC.region ?_
  refine WL.pure (v := .bool false) 2 rfl (Nat.le_of_ble_eq_true rfl) rfl rfl (by kernel_rfl) ?_
  refine WL.pure (v := .bool false) 3 rfl (Nat.le_of_ble_eq_true rfl) rfl rfl (by kernel_rfl) ?_
  refine WL.pure (v := vI 0) 4 rfl (Nat.le_of_ble_eq_true rfl) rfl rfl (by kernel_rfl) ?_
  refine WL.nil ?_
  refine WQ.then ?_
  refine hK14 _ _ _ ?_
  refine WC.ret ?_
  refine WQ.ret3 2 3 4 rfl rfl rfl rfl ?_
  exact ⟨rfl, hH13⟩
set_option maxRecDepth 20000 in
set_option maxHeartbeats 4000000 in
theorem StepPut_2 (q c n : Nat) (C : Nat → Int) (h t k : Nat) (wo tk : Int) (w : World) (hB : OwnB w (QB q c n C h t 2 k wo tk)) (hn : 2 ≤ n ∧ n ≤ 9) (hh : h < n) (ht : t < n) :
    Calls Try.prog 79 #[vP q 0] w fun e w' => e = .returned (.tuple #[.bool false, .bool false, vI 0]) ∧ HP (Out (QB q c n C h t 2 k wo tk)) w w' (QB q c n (upI C t wo) h t 3 k wo tk) := by
  refine calls_of Try.func79 rfl (m := 65) rfl [(0, vP q 0)] (Fr_enter [vP q 0] 65 (Nat.le_of_ble_eq_true rfl)) ?_
  refine WC.seq fun K1 hK1 => ?_
  refine WC.region ?_
  refine WL.pure (v := .bool false) 2 rfl (Nat.le_of_ble_eq_true rfl) rfl rfl (by kernel_rfl) ?_
  refine WL.pure (v := .bool false) 3 rfl (Nat.le_of_ble_eq_true rfl) rfl rfl (by kernel_rfl) ?_
  refine WL.pure (v := vI 0) 4 rfl (Nat.le_of_ble_eq_true rfl) rfl rfl (by kernel_rfl) ?_
  refine WL.nil ?_
  refine WQ.then ?_
  refine hK1 _ _ _ ?_
  refine WC.seq fun K2 hK2 => ?_
  refine WC.seq fun K3 hK3 => ?_
  refine WC.region ?_
  refine WL.pure (v := vP q 0) 5 rfl (Nat.le_of_ble_eq_true rfl) rfl rfl (by kernel_rfl) ?_
  refine WL.call (f := 96) (args := #[vP q 0]) 6 rfl (Nat.le_of_ble_eq_true rfl) rfl rfl (by kernel_rfl) ?_
  refine (qnone_any q c n _ (HP.cell (HP.startB hB) 0 rfl rfl) hn).mono ?_
  rintro e w4 ⟨rfl, rfl⟩
  refine ⟨_, rfl, ?_⟩
  refine WL.nil ?_
  refine WQ.then ?_
  refine hK3 _ _ _ ?_
  refine WC.no rfl ?_
  refine WC.skip ?_
  refine WQ.then ?_
  refine hK2 _ _ _ ?_
  refine WC.seq fun K5 hK5 => ?_
  refine WC.seq fun K6 hK6 => ?_
  refine WC.region ?_
  refine WL.pure (v := vP q 0) 7 rfl (Nat.le_of_ble_eq_true rfl) rfl rfl (by kernel_rfl) ?_
  refine WL.pure (v := vP q 0) 8 rfl (Nat.le_of_ble_eq_true rfl) rfl rfl (by kernel_rfl) ?_
  refine WL.pure (v := vP q 3) 9 rfl (Nat.le_of_ble_eq_true rfl) rfl rfl (by kernel_rfl) ?_
  refine WL.pure (v := vI 2) 10 rfl (Nat.le_of_ble_eq_true rfl) rfl rfl (x_load rfl rfl Try.underlying3 rfl (HP.cell (HP.startB hB) 0 rfl rfl)) ?_
  refine WL.nil ?_
  refine WQ.then ?_
  refine hK6 _ _ _ ?_
  refine WC.block ?_
  refine WC.seq fun K7 hK7 => ?_
  refine WC.region ?_
  refine WL.pure (v := .bool false) 12 rfl (Nat.le_of_ble_eq_true rfl) rfl rfl (x_eql rfl rfl rfl (by decide)) ?_
  refine WL.pure (v := .bool false) 11 rfl (Nat.le_of_ble_eq_true rfl) rfl rfl (by kernel_rfl) ?_
  refine WL.nil ?_
  refine WQ.then ?_
  refine hK7 _ _ _ ?_
  refine WC.no rfl ?_
  refine WC.seq fun K8 hK8 => ?_
  refine WC.region ?_
  refine WL.pure (v := .bool false) 14 rfl (Nat.le_of_ble_eq_true rfl) rfl rfl (x_eql rfl rfl rfl (by decide)) ?_
  refine WL.pure (v := .bool false) 13 rfl (Nat.le_of_ble_eq_true rfl) rfl rfl (by kernel_rfl) ?_
  refine WL.nil ?_
  refine WQ.then ?_
  refine hK8 _ _ _ ?_
  refine WC.sub (l' := [(0, vP q 0), (2, .bool false), (3, .bool false), (4, vI 0), (6, .bool false), (10, vI 2), (11, .bool false), (13, .bool false)]) ⟨rfl, rfl, rfl, rfl, rfl, rfl, rfl, rfl, trivial⟩ ?_
  refine WC.no rfl ?_
  refine WC.seq fun K9 hK9 => ?_
  refine WC.region ?_
  refine WL.pure (v := .bool true) 30 rfl (Nat.le_of_ble_eq_true rfl) rfl rfl (x_eql rfl rfl rfl (by decide)) ?_
  refine WL.pure (v := .bool true) 29 rfl (Nat.le_of_ble_eq_true rfl) rfl rfl (by kernel_rfl) ?_
  refine WL.nil ?_
  refine WQ.then ?_
  refine hK9 _ _ _ ?_
  refine WC.yes rfl ?_
  refine WC.confG (γ := Unit) [(29, .bool true), (30, .bool true), (0, vP q 0), (2, .bool false), (3, .bool false), (4, vI 0), (6, .bool false), (10, vI 2), (11, .bool false), (13, .bool false)] (fun _ => [vP q 0, vP q 0, vP q 0, vS c n n, vP q 0, vP q 0, vP q 2, vI (t : Int), vP q 0, vP q 0, vP q 5, vI wo, vP c t, undef]) (fun _ D wz => HP (Out (QB q c n C h t 2 k wo tk)) w wz [.cel q #[.slice (some ⟨c, 0, none⟩) n n, vI (h : Int), vI (t : Int), vI 2, vI (k : Int), vI wo, vI tk] 129, (bif D 13 then Ent.cel c (irow n (upI C t wo)) 3 else Ent.cel c (irow n C) 3)]) () (by kernel_rfl) ⟨rfl, rfl, rfl, rfl, rfl, rfl, rfl, rfl, rfl, rfl, trivial⟩ (by kernel_rfl) (by kernel_rfl) (by kernel_rfl) (fun _ => rfl) (by kernel_rfl) (HP.drew (HP.startB hB)) ?_ ?_
  · refine AllOk.cons ?o0 (AllOk.cons ?o1 (AllOk.cons ?o2 (AllOk.cons ?o3 (AllOk.cons ?o4 (AllOk.cons ?o5 (AllOk.cons ?o6 (AllOk.cons ?o7 (AllOk.cons ?o8 (AllOk.cons ?o9 (AllOk.cons ?o10 (AllOk.cons ?o11 (AllOk.cons ?o12 (AllOk.cons ?o13 (AllOk.nil _))))))))))))))
    case o0 =>
      intro g D wz hDi hdep hclo hW
      exact .inl ⟨rfl, rfl, .inl ⟨g, wz, fun _ _ => rfl, by kernel_rfl, hW⟩⟩
    case o1 =>
      intro g D wz hDi hdep hclo hW
      exact .inl ⟨rfl, rfl, .inl ⟨g, wz, fun _ _ => rfl, by kernel_rfl, hW⟩⟩
    case o2 =>
      intro g D wz hDi hdep hclo hW
      exact .inl ⟨rfl, rfl, .inl ⟨g, wz, fun _ _ => rfl, by kernel_rfl, hW⟩⟩
    case o3 =>
      intro g D wz hDi hdep hclo hW
      exact .inl ⟨rfl, rfl, .inl ⟨g, wz, fun _ _ => rfl, x_load rfl rfl Try.underlying58 rfl (HP.cell hW 0 rfl rfl), hW⟩⟩
    case o4 =>
      intro g D wz hDi hdep hclo hW
      exact .inl ⟨rfl, rfl, .inl ⟨g, wz, fun _ _ => rfl, by kernel_rfl, hW⟩⟩
    case o5 =>
      intro g D wz hDi hdep hclo hW
      exact .inl ⟨rfl, rfl, .inl ⟨g, wz, fun _ _ => rfl, by kernel_rfl, hW⟩⟩
    case o6 =>
      intro g D wz hDi hdep hclo hW
      exact .inl ⟨rfl, rfl, .inl ⟨g, wz, fun _ _ => rfl, by kernel_rfl, hW⟩⟩
    case o7 =>
      intro g D wz hDi hdep hclo hW
      exact .inl ⟨rfl, rfl, .inl ⟨g, wz, fun _ _ => rfl, x_load rfl rfl Try.underlying3 rfl (HP.cell hW 0 rfl rfl), hW⟩⟩
    case o8 =>
      intro g D wz hDi hdep hclo hW
      exact .inl ⟨rfl, rfl, .inl ⟨g, wz, fun _ _ => rfl, by kernel_rfl, hW⟩⟩
    case o9 =>
      intro g D wz hDi hdep hclo hW
      exact .inl ⟨rfl, rfl, .inl ⟨g, wz, fun _ _ => rfl, by kernel_rfl, hW⟩⟩
    case o10 =>
      intro g D wz hDi hdep hclo hW
      exact .inl ⟨rfl, rfl, .inl ⟨g, wz, fun _ _ => rfl, by kernel_rfl, hW⟩⟩
    case o11 =>
      intro g D wz hDi hdep hclo hW
      exact .inl ⟨rfl, rfl, .inl ⟨g, wz, fun _ _ => rfl, x_load rfl rfl Try.underlying3 rfl (HP.cell hW 0 rfl rfl), hW⟩⟩
    case o12 =>
      intro g D wz hDi hdep hclo hW
      exact .inl ⟨rfl, rfl, .inl ⟨g, wz, fun _ _ => rfl, x_idx (t) (t) rfl rfl rfl Try.underlying58 sz3 (by omega) (by omega) (by omega), hW⟩⟩
    case o13 =>
      intro g D wz hDi hdep hclo hW
      simp only [hDi, cond_false] at hW
      have h3 : HP (Out (QB q c n C h t 2 k wo tk)) w (wz.setCell ⟨c, t, none⟩ (vI wo)) [.cel q #[.slice (some ⟨c, 0, none⟩) n n, vI (h : Int), vI (t : Int), vI 2, vI (k : Int), vI wo, vI tk] 129, .cel c (irow n (upI C t wo)) 3] := by have h4 := HP.set (off := t) (v := vI wo) hW 1 rfl; rw [irow_set] at h4; exact h4
      exact .inl ⟨rfl, rfl, .inr (.inl ⟨_, x_store rfl rfl rfl sz3 rfl (HP.cell hW 1 rfl (irow_get (by omega) rfl)) (HP.free hW 1 rfl), rfl, h3⟩)⟩
  intro g D w10 hall hH11
  simp only [hall 13 (by kernel_rfl), cond_true] at hH11
  clear hall
  refine WQ.sub (l' := [(0, vP q 0), (2, .bool false), (3, .bool false), (4, vI 0), (6, .bool false), (10, vI 2), (11, .bool false), (13, .bool false), (29, .bool true)]) ⟨rfl, rfl, rfl, rfl, rfl, rfl, rfl, rfl, rfl, trivial⟩ ?_
  refine WQ.inNormal ?_
  refine WQ.then ?_
  refine hK5 _ _ _ ?_
  refine WC.seq fun K12 hK12 => ?_
  refine WC.region ?_
  refine WL.pure (v := vP q 0) 58 rfl (Nat.le_of_ble_eq_true rfl) rfl rfl (by kernel_rfl) ?_
  refine WL.pure (v := vP q 0) 59 rfl (Nat.le_of_ble_eq_true rfl) rfl rfl (by kernel_rfl) ?_
  refine WL.pure (v := vP q 3) 60 rfl (Nat.le_of_ble_eq_true rfl) rfl rfl (by kernel_rfl) ?_
  refine WL.pure (v := vI 2) 61 rfl (Nat.le_of_ble_eq_true rfl) rfl rfl (x_load rfl rfl Try.underlying3 rfl (HP.cell hH11 0 rfl rfl)) ?_
  refine WL.pure (v := vI 3) 62 rfl (Nat.le_of_ble_eq_true rfl) rfl rfl (x_add (Z := 3) rfl rfl rfl (by omega) (by omega) (by omega)) ?_
  refine WL.pure (v := vP q 0) 63 rfl (Nat.le_of_ble_eq_true rfl) rfl rfl (by kernel_rfl) ?_
  refine WL.pure (v := vP q 3) 64 rfl (Nat.le_of_ble_eq_true rfl) rfl rfl (by kernel_rfl) ?_
  refine WL.store (H2 := [.cel q #[.slice (some ⟨c, 0, none⟩) n n, vI (h : Int), vI (t : Int), vI 3, vI (k : Int), vI wo, vI tk] 129, .cel c (irow n (upI C t wo)) 3]) 0 hH11 rfl rfl rfl rfl rfl rfl sz3 rfl (Nat.le_of_ble_eq_true rfl) rfl rfl ?_
  intro w13 hH14
  refine WL.nil ?_
  refine WQ.then ?_
  refine hK12 _ _ _ ?_
  refine WC.sub (l' := [(0, vP q 0), (2, .bool false), (3, .bool false), (4, vI 0), (6, .bool false), (10, vI 2), (11, .bool false), (13, .bool false), (29, .bool true)]) ⟨rfl, rfl, rfl, rfl, rfl, rfl, rfl, rfl, rfl, trivial⟩ ?_
  refine WC.seq fun K15 hK15 => ?_
  refine WC.region ?_
  refine WL.pure (v := .bool false) 2 rfl (Nat.le_of_ble_eq_true rfl) rfl rfl (by kernel_rfl) ?_
  refine WL.pure (v := .bool false) 3 rfl (Nat.le_of_ble_eq_true rfl) rfl rfl (by kernel_rfl) ?_
  refine WL.pure (v := vI 0) 4 rfl (Nat.le_of_ble_eq_true rfl) rfl rfl (by kernel_rfl) ?_
  refine WL.nil ?_
  refine WQ.then ?_
  refine hK15 _ _ _ ?_
  refine WC.ret ?_
  refine WQ.ret3 2 3 4 rfl rfl rfl rfl ?_
  exact ⟨rfl, hH14⟩
set_option maxRecDepth 20000 in
set_option maxHeartbeats 4000000 in
theorem StepPut_3 (q c n : Nat) (C : Nat → Int) (h t k : Nat) (wo tk : Int) (t2 : Nat) (w : World) (hB : OwnB w (QB q c n C h t 3 k wo tk)) (hn : 2 ≤ n ∧ n ≤ 9) (hh : h < n) (ht : t < n) (hf : (t + 1) % n = t2) :
    Calls Try.prog 79 #[vP q 0] w fun e w' => e = .returned (.tuple #[.bool true, .bool true, vI 0]) ∧ HP (Out (QB q c n C h t 3 k wo tk)) w w' (QB q c n C h t2 0 k wo tk) := by
  refine calls_of Try.func79 rfl (m := 65) rfl [(0, vP q 0)] (Fr_enter [vP q 0] 65 (Nat.le_of_ble_eq_true rfl)) ?_
  refine WC.seq fun K1 hK1 => ?_
  refine WC.region ?_
  refine WL.pure (v := .bool false) 2 rfl (Nat.le_of_ble_eq_true rfl) rfl rfl (by kernel_rfl) ?_
  refine WL.pure (v := .bool false) 3 rfl (Nat.le_of_ble_eq_true rfl) rfl rfl (by kernel_rfl) ?_
  refine WL.pure (v := vI 0) 4 rfl (Nat.le_of_ble_eq_true rfl) rfl rfl (by kernel_rfl) ?_
  refine WL.nil ?_
  refine WQ.then ?_
  refine hK1 _ _ _ ?_
  refine WC.seq fun K2 hK2 => ?_
  refine WC.seq fun K3 hK3 => ?_
  refine WC.region ?_
  refine WL.pure (v := vP q 0) 5 rfl (Nat.le_of_ble_eq_true rfl) rfl rfl (by kernel_rfl) ?_
  refine WL.call (f := 96) (args := #[vP q 0]) 6 rfl (Nat.le_of_ble_eq_true rfl) rfl rfl (by kernel_rfl) ?_
  refine (qnone_any q c n _ (HP.cell (HP.startB hB) 0 rfl rfl) hn).mono ?_
  rintro e w4 ⟨rfl, rfl⟩
  refine ⟨_, rfl, ?_⟩
  refine WL.nil ?_
  refine WQ.then ?_
  refine hK3 _ _ _ ?_
  refine WC.no rfl ?_
  refine WC.skip ?_
  refine WQ.then ?_
  refine hK2 _ _ _ ?_
  refine WC.seq fun K5 hK5 => ?_
  refine WC.seq fun K6 hK6 => ?_
  refine WC.region ?_
  refine WL.pure (v := vP q 0) 7 rfl (Nat.le_of_ble_eq_true rfl) rfl rfl (by kernel_rfl) ?_
  refine WL.pure (v := vP q 0) 8 rfl (Nat.le_of_ble_eq_true rfl) rfl rfl (by kernel_rfl) ?_
  refine WL.pure (v := vP q 3) 9 rfl (Nat.le_of_ble_eq_true rfl) rfl rfl (by kernel_rfl) ?_
  refine WL.pure (v := vI 3) 10 rfl (Nat.le_of_ble_eq_true rfl) rfl rfl (x_load rfl rfl Try.underlying3 rfl (HP.cell (HP.startB hB) 0 rfl rfl)) ?_
  refine WL.nil ?_
  refine WQ.then ?_
  refine hK6 _ _ _ ?_
  refine WC.block ?_
  refine WC.seq fun K7 hK7 => ?_
  refine WC.region ?_
  refine WL.pure (v := .bool false) 12 rfl (Nat.le_of_ble_eq_true rfl) rfl rfl (x_eql rfl rfl rfl (by decide)) ?_
  refine WL.pure (v := .bool false) 11 rfl (Nat.le_of_ble_eq_true rfl) rfl rfl (by kernel_rfl) ?_
  refine WL.nil ?_
  refine WQ.then ?_
  refine hK7 _ _ _ ?_
  refine WC.no rfl ?_
  refine WC.seq fun K8 hK8 => ?_
  refine WC.region ?_
  refine WL.pure (v := .bool false) 14 rfl (Nat.le_of_ble_eq_true rfl) rfl rfl (x_eql rfl rfl rfl (by decide)) ?_
  refine WL.pure (v := .bool false) 13 rfl (Nat.le_of_ble_eq_true rfl) rfl rfl (by kernel_rfl) ?_
  refine WL.nil ?_
  refine WQ.then ?_
  refine hK8 _ _ _ ?_
  refine WC.sub (l' := [(0, vP q 0), (2, .bool false), (3, .bool false), (4, vI 0), (6, .bool false), (10, vI 3), (11, .bool false), (13, .bool false)]) ⟨rfl, rfl, rfl, rfl, rfl, rfl, rfl, rfl, trivial⟩ ?_
  refine WC.no rfl ?_
  refine WC.seq fun K9 hK9 => ?_
  refine WC.region ?_
  refine WL.pure (v := .bool false) 30 rfl (Nat.le_of_ble_eq_true rfl) rfl rfl (x_eql rfl rfl rfl (by decide)) ?_
  refine WL.pure (v := .bool false) 29 rfl (Nat.le_of_ble_eq_true rfl) rfl rfl (by kernel_rfl) ?_
  refine WL.nil ?_
  refine WQ.then ?_
  refine hK9 _ _ _ ?_
  refine WC.no rfl ?_
  refine WC.seq fun K10 hK10 => ?_
  refine WC.region ?_
  refine WL.pure (v := .bool true) 45 rfl (Nat.le_of_ble_eq_true rfl) rfl rfl (x_eql rfl rfl rfl (by decide)) ?_
  refine WL.pure (v := .bool true) 44 rfl (Nat.le_of_ble_eq_true rfl) rfl rfl (by kernel_rfl) ?_
  refine WL.nil ?_
  refine WQ.then ?_
  refine hK10 _ _ _ ?_
  refine WC.yes rfl ?_
  refine WC.seq fun K11 hK11 => ?_
  refine WC.region ?_
  refine WL.pure (v := vP q 0) 46 rfl (Nat.le_of_ble_eq_true rfl) rfl rfl (by kernel_rfl) ?_
  refine WL.pure (v := vP q 0) 47 rfl (Nat.le_of_ble_eq_true rfl) rfl rfl (by kernel_rfl) ?_
  refine WL.pure (v := vP q 0) 48 rfl (Nat.le_of_ble_eq_true rfl) rfl rfl (by kernel_rfl) ?_
  refine WL.pure (v := vP q 0) 49 rfl (Nat.le_of_ble_eq_true rfl) rfl rfl (by kernel_rfl) ?_
  refine WL.pure (v := vP q 0) 50 rfl (Nat.le_of_ble_eq_true rfl) rfl rfl (by kernel_rfl) ?_
  refine WL.pure (v := vP q 2) 51 rfl (Nat.le_of_ble_eq_true rfl) rfl rfl (by kernel_rfl) ?_
  refine WL.pure (v := vI (t : Int)) 52 rfl (Nat.le_of_ble_eq_true rfl) rfl rfl (x_load rfl rfl Try.underlying3 rfl (HP.cell (HP.startB hB) 0 rfl rfl)) ?_
  refine WL.call (f := 98) (args := #[vP q 0, vI (t : Int)]) 53 rfl (Nat.le_of_ble_eq_true rfl) rfl rfl (by kernel_rfl) ?_
  refine (behind_any q c n t t2 _ (HP.cell (HP.startB hB) 0 rfl rfl) hn ht hf).mono ?_
  rintro e w12 ⟨rfl, rfl⟩
  refine ⟨_, rfl, ?_⟩
  refine WL.pure (v := vP q 0) 54 rfl (Nat.le_of_ble_eq_true rfl) rfl rfl (by kernel_rfl) ?_
  refine WL.pure (v := vP q 2) 55 rfl (Nat.le_of_ble_eq_true rfl) rfl rfl (by kernel_rfl) ?_
  refine WL.store (H2 := [.cel q #[.slice (some ⟨c, 0, none⟩) n n, vI (h : Int), vI (t2 : Int), vI 3, vI (k : Int), vI wo, vI tk] 129, .cel c (irow n C) 3]) 0 (HP.startB hB) rfl rfl rfl rfl rfl rfl sz3 rfl (Nat.le_of_ble_eq_true rfl) rfl rfl ?_
  intro w13 hH14
  refine WL.pure (v := vP q 0) 56 rfl (Nat.le_of_ble_eq_true rfl) rfl rfl (by kernel_rfl) ?_
  refine WL.pure (v := vP q 3) 57 rfl (Nat.le_of_ble_eq_true rfl) rfl rfl (by kernel_rfl) ?_
  refine WL.store (H2 := [.cel q #[.slice (some ⟨c, 0, none⟩) n n, vI (h : Int), vI (t2 : Int), vI 0, vI (k : Int), vI wo, vI tk] 129, .cel c (irow n C) 3]) 0 hH14 rfl rfl rfl rfl rfl rfl sz3 rfl (Nat.le_of_ble_eq_true rfl) rfl rfl ?_
  intro w15 hH16
  refine WL.nil ?_
  refine WQ.then ?_
  refine hK11 _ _ _ ?_
  refine WC.sub (l' := [(0, vP q 0), (2, .bool false), (3, .bool false), (4, vI 0), (6, .bool false), (10, vI 3), (11, .bool false), (13, .bool false), (29, .bool false), (44, .bool true)]) ⟨rfl, rfl, rfl, rfl, rfl, rfl, rfl, rfl, rfl, rfl, trivial⟩ ?_
  refine WC.seq fun K17 hK17 => ?_
  refine WC.region ?_
  refine WL.pure (v := .bool true) 2 rfl (Nat.le_of_ble_eq_true rfl) rfl rfl (by kernel_rfl) ?_
  refine WL.pure (v := .bool true) 3 rfl (Nat.le_of_ble_eq_true rfl) rfl rfl (by kernel_rfl) ?_
  refine WL.pure (v := vI 0) 4 rfl (Nat.le_of_ble_eq_true rfl) rfl rfl (by kernel_rfl) ?_
  refine WL.nil ?_
  refine WQ.then ?_
  refine hK17 _ _ _ ?_
  refine WC.ret ?_
  refine WQ.inRet ?_
  refine WQ.thenRet ?_
  refine WQ.ret3 2 3 4 rfl rfl rfl rfl ?_
  exact ⟨rfl, hH16⟩
set_option maxRecDepth 20000 in
set_option maxHeartbeats 4000000 in
theorem StepTake_1e (q c n : Nat) (C : Nat → Int) (h t p : Nat) (wo tk : Int) (w : World) (hB : OwnB w (QB q c n C h t p 1 wo tk)) (hn : 2 ≤ n ∧ n ≤ 9) (hh : h < n) (ht : t < n) (hf : h = t) :
    Calls Try.prog 81 #[vP q 0] w fun e w' => e = .returned (.tuple #[.bool true, .bool false, vI 0, vI 0]) ∧ HP (Out (QB q c n C h t p 1 wo tk)) w w' (QB q c n C h t p 0 wo tk) := by
  refine calls_of Try.func81 rfl (m := 68) rfl [(0, vP q 0)] (Fr_enter [vP q 0] 68 (Nat.le_of_ble_eq_true rfl)) ?_
  refine WC.seq fun K1 hK1 => ?_
  refine WC.region ?_
  refine WL.pure (v := .bool false) 2 rfl (Nat.le_of_ble_eq_true rfl) rfl rfl (by kernel_rfl) ?_
  refine WL.pure (v := .bool false) 3 rfl (Nat.le_of_ble_eq_true rfl) rfl rfl (by kernel_rfl) ?_
  refine WL.pure (v := vI 0) 4 rfl (Nat.le_of_ble_eq_true rfl) rfl rfl (by kernel_rfl) ?_
  refine WL.pure (v := vI 0) 5 rfl (Nat.le_of_ble_eq_true rfl) rfl rfl (by kernel_rfl) ?_
  refine WL.nil ?_
  refine WQ.then ?_
  refine hK1 _ _ _ ?_
  refine WC.seq fun K2 hK2 => ?_
  refine WC.seq fun K3 hK3 => ?_
  refine WC.region ?_
  refine WL.pure (v := vP q 0) 6 rfl (Nat.le_of_ble_eq_true rfl) rfl rfl (by kernel_rfl) ?_
  refine WL.call (f := 96) (args := #[vP q 0]) 7 rfl (Nat.le_of_ble_eq_true rfl) rfl rfl (by kernel_rfl) ?_
  refine (qnone_any q c n _ (HP.cell (HP.startB hB) 0 rfl rfl) hn).mono ?_
  rintro e w4 ⟨rfl, rfl⟩
  refine ⟨_, rfl, ?_⟩
  refine WL.nil ?_
  refine WQ.then ?_
  refine hK3 _ _ _ ?_
  refine WC.no rfl ?_
  refine WC.skip ?_
  refine WQ.then ?_
  refine hK2 _ _ _ ?_
  refine WC.seq fun K5 hK5 => ?_
  refine WC.seq fun K6 hK6 => ?_
  refine WC.region ?_
  refine WL.pure (v := vP q 0) 8 rfl (Nat.le_of_ble_eq_true rfl) rfl rfl (by kernel_rfl) ?_
  refine WL.pure (v := vP q 0) 9 rfl (Nat.le_of_ble_eq_true rfl) rfl rfl (by kernel_rfl) ?_
  refine WL.pure (v := vP q 4) 10 rfl (Nat.le_of_ble_eq_true rfl) rfl rfl (by kernel_rfl) ?_
  refine WL.pure (v := vI 1) 11 rfl (Nat.le_of_ble_eq_true rfl) rfl rfl (x_load rfl rfl Try.underlying3 rfl (HP.cell (HP.startB hB) 0 rfl rfl)) ?_
  refine WL.nil ?_
  refine WQ.then ?_
  refine hK6 _ _ _ ?_
  refine WC.block ?_
  refine WC.seq fun K7 hK7 => ?_
  refine WC.region ?_
  refine WL.pure (v := .bool false) 13 rfl (Nat.le_of_ble_eq_true rfl) rfl rfl (x_eql rfl rfl rfl (by decide)) ?_
  refine WL.pure (v := .bool false) 12 rfl (Nat.le_of_ble_eq_true rfl) rfl rfl (by kernel_rfl) ?_
  refine WL.nil ?_
  refine WQ.then ?_
  refine hK7 _ _ _ ?_
  refine WC.no rfl ?_
  refine WC.seq fun K8 hK8 => ?_
  refine WC.region ?_
  refine WL.pure (v := .bool true) 15 rfl (Nat.le_of_ble_eq_true rfl) rfl rfl (x_eql rfl rfl rfl (by decide)) ?_
  refine WL.pure (v := .bool true) 14 rfl (Nat.le_of_ble_eq_true rfl) rfl rfl (by kernel_rfl) ?_
  refine WL.nil ?_
  refine WQ.then ?_
  refine hK8 _ _ _ ?_
  refine WC.sub (l' := [(0, vP q 0), (2, .bool false), (3, .bool false), (4, vI 0), (5, vI 0), (7, .bool false), (11, vI 1), (12, .bool false), (14, .bool true)]) ⟨rfl, rfl, rfl, rfl, rfl, rfl, rfl, rfl, rfl, trivial⟩ ?_
  refine WC.yes rfl ?_
  refine WC.seq fun K9 hK9 => ?_
  refine WC.still (by kernel_rfl) (by kernel_rfl) ?_
  have hH10 : HP (Out (QB q c n C h t p 1 wo tk)) w _ [.cel q #[.slice (some ⟨c, 0, none⟩) n n, vI (h : Int), vI (t : Int), vI (p : Int), vI 1, vI wo, vI tk] 129, .cel c (irow n C) 3] := HP.drew (HP.startB hB)
  refine WS.val (v := vP q 0) 16 rfl (Nat.le_of_ble_eq_true rfl) rfl rfl (by kernel_rfl) ?_
  refine WS.val (v := vP q 0) 17 rfl (Nat.le_of_ble_eq_true rfl) rfl rfl (by kernel_rfl) ?_
  refine WS.val (v := vP q 1) 18 rfl (Nat.le_of_ble_eq_true rfl) rfl rfl (by kernel_rfl) ?_
  refine WS.val (v := vI (h : Int)) 19 rfl (Nat.le_of_ble_eq_true rfl) rfl rfl (x_load rfl rfl Try.underlying3 rfl (HP.cell hH10 0 rfl rfl)) ?_
  refine WS.val (v := vP q 0) 20 rfl (Nat.le_of_ble_eq_true rfl) rfl rfl (by kernel_rfl) ?_
  refine WS.val (v := vP q 0) 21 rfl (Nat.le_of_ble_eq_true rfl) rfl rfl (by kernel_rfl) ?_
  refine WS.val (v := vP q 2) 22 rfl (Nat.le_of_ble_eq_true rfl) rfl rfl (by kernel_rfl) ?_
  refine WS.val (v := vI (t : Int)) 23 rfl (Nat.le_of_ble_eq_true rfl) rfl rfl (x_load rfl rfl Try.underlying3 rfl (HP.cell hH10 0 rfl rfl)) ?_
  refine WS.val (v := .bool true) 24 rfl (Nat.le_of_ble_eq_true rfl) rfl rfl (x_eql rfl rfl rfl (dT (by omega))) ?_
  refine WS.nilQ ?_
  refine WQ.then ?_
  refine hK9 _ _ _ ?_
  refine WC.sub (l' := [(0, vP q 0), (2, .bool false), (3, .bool false), (4, vI 0), (5, vI 0), (7, .bool false), (11, vI 1), (12, .bool false), (14, .bool true), (24, .bool true)]) ⟨rfl, rfl, rfl, rfl, rfl, rfl, rfl, rfl, rfl, rfl, trivial⟩ ?_
  refine WC.yes rfl ?_
  refine WC.seq fun K11 hK11 => ?_
  refine WC.region ?_
  refine WL.pure (v := vP q 0) 25 rfl (Nat.le_of_ble_eq_true rfl) rfl rfl (by kernel_rfl) ?_
  refine WL.pure (v := vP q 0) 26 rfl (Nat.le_of_ble_eq_true rfl) rfl rfl (by kernel_rfl) ?_
  refine WL.pure (v := vP q 4) 27 rfl (Nat.le_of_ble_eq_true rfl) rfl rfl (by kernel_rfl) ?_
  refine WL.store (H2 := [.cel q #[.slice (some ⟨c, 0, none⟩) n n, vI (h : Int), vI (t : Int), vI (p : Int), vI 0, vI wo, vI tk] 129, .cel c (irow n C) 3]) 0 hH10 rfl rfl rfl rfl rfl rfl sz3 rfl (Nat.le_of_ble_eq_true rfl) rfl rfl ?_
  intro w12 hH13
  refine WL.nil ?_
  refine WQ.then ?_
  refine hK11 _ _ _ ?_
  refine WC.seq fun K14 hK14 => ?_
  refine WC.region ?_
  refine WL.pure (v := .bool true) 2 rfl (Nat.le_of_ble_eq_true rfl) rfl rfl (by kernel_rfl) ?_
  refine WL.pure (v := .bool false) 3 rfl (Nat.le_of_ble_eq_true rfl) rfl rfl (by kernel_rfl) ?_
  refine WL.pure (v := vI 0) 4 rfl (Nat.le_of_ble_eq_true rfl) rfl rfl (by kernel_rfl) ?_
  refine WL.pure (v := vI 0) 5 rfl (Nat.le_of_ble_eq_true rfl) rfl rfl (by kernel_rfl) ?_
  refine WL.nil ?_
  refine WQ.then ?_
  refine hK14 _ _ _ ?_
  refine WC.sub (l' := [(0, vP q 0), (2, .bool true), (3, .bool false), (4, vI 0), (5, vI 0), (7, .bool false), (11, vI 1), (12, .bool false), (14, .bool true), (24, .bool true)]) ⟨rfl, rfl, rfl, rfl, rfl, rfl, rfl, rfl, rfl, rfl, trivial⟩ ?_
  refine WC.ret ?_
  refine WQ.inRet ?_
  refine WQ.thenRet ?_
  refine WQ.ret4 2 3 4 5 rfl rfl rfl rfl rfl ?_
  exact ⟨rfl, hH13⟩
set_option maxRecDepth 20000 in
set_option maxHeartbeats 4000000 in
theorem StepTake_1n (q c n : Nat) (C : Nat → Int) (h t p : Nat) (wo tk : Int) (w : World) (hB : OwnB w (QB q c n C h t p 1 wo tk)) (hn : 2 ≤ n ∧ n ≤ 9) (hh : h < n) (ht : t < n) (hf : h ≠ t) :
    Calls Try.prog 81 #[vP q 0] w fun e w' => e = .returned (.tuple #[.bool false, .bool false, vI 0, vI 0]) ∧ HP (Out (QB q c n C h t p 1 wo tk)) w w' (QB q c n C h t p 2 wo tk) := by
  refine calls_of Try.func81 rfl (m := 68) rfl [(0, vP q 0)] (Fr_enter [vP q 0] 68 (Nat.le_of_ble_eq_true rfl)) ?_
  refine WC.seq fun K1 hK1 => ?_
  refine WC.region ?_
  refine WL.pure (v := .bool false) 2 rfl (Nat.le_of_ble_eq_true rfl) rfl rfl (by kernel_rfl) ?_
  refine WL.pure (v := .bool false) 3 rfl (Nat.le_of_ble_eq_true rfl) rfl rfl (by kernel_rfl) ?_
  refine WL.pure (v := vI 0) 4 rfl (Nat.le_of_ble_eq_true rfl) rfl rfl (by kernel_rfl) ?_
  refine WL.pure (v := vI 0) 5 rfl (Nat.le_of_ble_eq_true rfl) rfl rfl (by kernel_rfl) ?_
  refine WL.nil ?_
  refine WQ.then ?_
  refine hK1 _ _ _ ?_
  refine WC.seq fun K2 hK2 => ?_
  refine WC.seq fun K3 hK3 => ?_
  refine WC.region ?_
  refine WL.pure (v := vP q 0) 6 rfl (Nat.le_of_ble_eq_true rfl) rfl rfl (by kernel_rfl) ?_
  refine WL.call (f := 96) (args := #[vP q 0]) 7 rfl (Nat.le_of_ble_eq_true rfl) rfl rfl (by kernel_rfl) ?_
  refine (qnone_any q c n _ (HP.cell (HP.startB hB) 0 rfl rfl) hn).mono ?_
  rintro e w4 ⟨rfl, rfl⟩
  refine ⟨_, rfl, ?_⟩
  refine WL.nil ?_
  refine WQ.then ?_
  refine hK3 _ _ _ ?_
  refine WC.no rfl ?_
  refine WC.skip ?_
  refine WQ.then ?_
  refine hK2 _ _ _ ?_
  refine WC.seq fun K5 hK5 => ?_
  refine WC.seq fun K6 hK6 => ?_
  refine WC.region ?_
  refine WL.pure (v := vP q 0) 8 rfl (Nat.le_of_ble_eq_true rfl) rfl rfl (by kernel_rfl) ?_
  refine WL.pure (v := vP q 0) 9 rfl (Nat.le_of_ble_eq_true rfl) rfl rfl (by kernel_rfl) ?_
  refine WL.pure (v := vP q 4) 10 rfl (Nat.le_of_ble_eq_true rfl) rfl rfl (by kernel_rfl) ?_
  refine WL.pure (v := vI 1) 11 rfl (Nat.le_of_ble_eq_true rfl) rfl rfl (x_load rfl rfl Try.underlying3 rfl (HP.cell (HP.startB hB) 0 rfl rfl)) ?_
  refine WL.nil ?_
  refine WQ.then ?_
  refine hK6 _ _ _ ?_
  refine WC.block ?_
  refine WC.seq fun K7 hK7 => ?_
  refine WC.region ?_
  refine WL.pure (v := .bool false) 13 rfl (Nat.le_of_ble_eq_true rfl) rfl rfl (x_eql rfl rfl rfl (by decide)) ?_
  refine WL.pure (v := .bool false) 12 rfl (Nat.le_of_ble_eq_true rfl) rfl rfl (by kernel_rfl) ?_
  refine WL.nil ?_
  refine WQ.then ?_
  refine hK7 _ _ _ ?_
  refine WC.no rfl ?_
  refine WC.seq fun K8 hK8 => ?_
  refine WC.region ?_
  refine WL.pure (v := .bool true) 15 rfl (Nat.le_of_ble_eq_true rfl) rfl rfl (x_eql rfl rfl rfl (by decide)) ?_
  refine WL.pure (v := .bool true) 14 rfl (Nat.le_of_ble_eq_true rfl) rfl rfl (by kernel_rfl) ?_
  refine WL.nil ?_
  refine WQ.then ?_
  refine hK8 _ _ _ ?_
  refine WC.sub (l' := [(0, vP q 0), (2, .bool false), (3, .bool false), (4, vI 0), (5, vI 0), (7, .bool false), (11, vI 1), (12, .bool false), (14, .bool true)]) ⟨rfl, rfl, rfl, rfl, rfl, rfl, rfl, rfl, rfl, trivial⟩ ?_
  refine WC.yes rfl ?_
  refine WC.seq fun K9 hK9 => ?_
  refine WC.still (by kernel_rfl) (by kernel_rfl) ?_
  have hH10 : HP (Out (QB q c n C h t p 1 wo tk)) w _ [.cel q #[.slice (some ⟨c, 0, none⟩) n n, vI (h : Int), vI (t : Int), vI (p : Int), vI 1, vI wo, vI tk] 129, .cel c (irow n C) 3] := HP.drew (HP.startB hB)
  refine WS.val (v := vP q 0) 16 rfl (Nat.le_of_ble_eq_true rfl) rfl rfl (by kernel_rfl) ?_
  refine WS.val (v := vP q 0) 17 rfl (Nat.le_of_ble_eq_true rfl) rfl rfl (by kernel_rfl) ?_
  refine WS.val (v := vP q 1) 18 rfl (Nat.le_of_ble_eq_true rfl) rfl rfl (by kernel_rfl) ?_
  refine WS.val (v := vI (h : Int)) 19 rfl (Nat.le_of_ble_eq_true rfl) rfl rfl (x_load rfl rfl Try.underlying3 rfl (HP.cell hH10 0 rfl rfl)) ?_
  refine WS.val (v := vP q 0) 20 rfl (Nat.le_of_ble_eq_true rfl) rfl rfl (by kernel_rfl) ?_
  refine WS.val (v := vP q 0) 21 rfl (Nat.le_of_ble_eq_true rfl) rfl rfl (by kernel_rfl) ?_
  refine WS.val (v := vP q 2) 22 rfl (Nat.le_of_ble_eq_true rfl) rfl rfl (by kernel_rfl) ?_
  refine WS.val (v := vI (t : Int)) 23 rfl (Nat.le_of_ble_eq_true rfl) rfl rfl (x_load rfl rfl Try.underlying3 rfl (HP.cell hH10 0 rfl rfl)) ?_
  refine WS.val (v := .bool false) 24 rfl (Nat.le_of_ble_eq_true rfl) rfl rfl (x_eql rfl rfl rfl (dF (by omega))) ?_
  refine WS.nilQ ?_
  refine WQ.then ?_
  refine hK9 _ _ _ ?_
  refine WC.sub (l' := [(0, vP q 0), (2, .bool false), (3, .bool false), (4, vI 0), (5, vI 0), (7, .bool false), (11, vI 1), (12, .bool false), (14, .bool true), (24, .bool false)]) ⟨rfl, rfl, rfl, rfl, rfl, rfl, rfl, rfl, rfl, rfl, trivial⟩ ?_
  refine WC.no rfl ?_
  refine WC.skip ?_
  refine WQ.inNormal ?_
  refine WQ.then ?_
  refine hK5 _ _ _ ?_
  refine WC.seq fun K11 hK11 => ?_
  refine WC.region ?_
  refine WL.pure (v := vP q 0) 61 rfl (Nat.le_of_ble_eq_true rfl) rfl rfl (by kernel_rfl) ?_
  refine WL.pure (v := vP q 0) 62 rfl (Nat.le_of_ble_eq_true rfl) rfl rfl (by kernel_rfl) ?_
  refine WL.pure (v := vP q 4) 63 rfl (Nat.le_of_ble_eq_true rfl) rfl rfl (by kernel_rfl) ?_
  refine WL.pure (v := vI 1) 64 rfl (Nat.le_of_ble_eq_true rfl) rfl rfl (x_load rfl rfl Try.underlying3 rfl (HP.cell hH10 0 rfl rfl)) ?_
  refine WL.pure (v := vI 2) 65 rfl (Nat.le_of_ble_eq_true rfl) rfl rfl (x_add (Z := 2) rfl rfl rfl (by omega) (by omega) (by omega)) ?_
  refine WL.pure (v := vP q 0) 66 rfl (Nat.le_of_ble_eq_true rfl) rfl rfl (by kernel_rfl) ?_
  refine WL.pure (v := vP q 4) 67 rfl (Nat.le_of_ble_eq_true rfl) rfl rfl (by kernel_rfl) ?_
  refine WL.store (H2 := [.cel q #[.slice (some ⟨c, 0, none⟩) n n, vI (h : Int), vI (t : Int), vI (p : Int), vI 2, vI wo, vI tk] 129, .cel c (irow n C) 3]) 0 hH10 rfl rfl rfl rfl rfl rfl sz3 rfl (Nat.le_of_ble_eq_true rfl) rfl rfl ?_
  intro w12 hH13
  refine WL.nil ?_
  refine WQ.then ?_
  refine hK11 _ _ _ ?_
  refine WC.sub (l' := [(0, vP q 0), (2, .bool false), (3, .bool false), (4, vI 0), (5, vI 0), (7, .bool false), (11, vI 1), (12, .bool false), (14, .bool true), (24, .bool false)]) ⟨rfl, rfl, rfl, rfl, rfl, rfl, rfl, rfl, rfl, rfl, trivial⟩ ?_
  refine WC.seq fun K14 hK14 => ?_
  refine WC.region ?_
  refine WL.pure (v := .bool false) 2 rfl (Nat.le_of_ble_eq_true rfl) rfl rfl (by kernel_rfl) ?_
  refine WL.pure (v := .bool false) 3 rfl (Nat.le_of_ble_eq_true rfl) rfl rfl (by kernel_rfl) ?_
  refine WL.pure (v := vI 0) 4 rfl (Nat.le_of_ble_eq_true rfl) rfl rfl (by kernel_rfl) ?_
  refine WL.pure (v := vI 0) 5 rfl (Nat.le_of_ble_eq_true rfl) rfl rfl (by kernel_rfl) ?_
  refine WL.nil ?_
  refine WQ.then ?_
  refine hK14 _ _ _ ?_
  refine WC.ret ?_
  refine WQ.ret4 2 3 4 5 rfl rfl rfl rfl rfl ?_
  exact ⟨rfl, hH13⟩
set_option maxRecDepth 20000 in
set_option maxHeartbeats 4000000 in
theorem StepTake_2 (q c n : Nat) (C : Nat → Int) (h t p : Nat) (wo tk : Int) (w : World) (hB : OwnB w (QB q c n C h t p 2 wo tk)) (hn : 2 ≤ n ∧ n ≤ 9) (hh : h < n) (ht : t < n) :
    Calls Try.prog 81 #[vP q 0] w fun e w' => e = .returned (.tuple #[.bool false, .bool false, vI 0, vI 0]) ∧ HP (Out (QB q c n C h t p 2 wo tk)) w w' (QB q c n C h t p 3 wo (C h)) := by
  refine calls_of Try.func81 rfl (m := 68) rfl [(0, vP q 0)] (Fr_enter [vP q 0] 68 (Nat.le_of_ble_eq_true rfl)) ?_
  refine WC.seq fun K1 hK1 => ?_
  refine WC.region ?_
  refine WL.pure (v := .bool false) 2 rfl (Nat.le_of_ble_eq_true rfl) rfl rfl (by kernel_rfl) ?_
  refine WL.pure (v := .bool false) 3 rfl (Nat.le_of_ble_eq_true rfl) rfl rfl (by kernel_rfl) ?_
  refine WL.pure (v := vI 0) 4 rfl (Nat.le_of_ble_eq_true rfl) rfl rfl (by kernel_rfl) ?_
  refine WL.pure (v := vI 0) 5 rfl (Nat.le_of_ble_eq_true rfl) rfl rfl (by kernel_rfl) ?_
  refine WL.nil ?_
  refine WQ.then ?_
  refine hK1 _ _ _ ?_
  refine WC.seq fun K2 hK2 => ?_
  refine WC.seq fun K3 hK3 => ?_
  refine WC.region ?_
  refine WL.pure (v := vP q 0) 6 rfl (Nat.le_of_ble_eq_true rfl) rfl rfl (by kernel_rfl) ?_
  refine WL.call (f := 96) (args := #[vP q 0]) 7 rfl (Nat.le_of_ble_eq_true rfl) rfl rfl (by kernel_rfl) ?_
  refine (qnone_any q c n _ (HP.cell (HP.startB hB) 0 rfl rfl) hn).mono ?_
  rintro e w4 ⟨rfl, rfl⟩
  refine ⟨_, rfl, ?_⟩
  refine WL.nil ?_
  refine WQ.then ?_
  refine hK3 _ _ _ ?_
  refine WC.no rfl ?_
  refine WC.skip ?_
  refine WQ.then ?_
  refine hK2 _ _ _ ?_
  refine WC.seq fun K5 hK5 => ?_
  refine WC.seq fun K6 hK6 => ?_
  refine WC.region ?_
  refine WL.pure (v := vP q 0) 8 rfl (Nat.le_of_ble_eq_true rfl) rfl rfl (by kernel_rfl) ?_
  refine WL.pure (v := vP q 0) 9 rfl (Nat.le_of_ble_eq_true rfl) rfl rfl (by kernel_rfl) ?_
  refine WL.pure (v := vP q 4) 10 rfl (Nat.le_of_ble_eq_true rfl) rfl rfl (by kernel_rfl) ?_
  refine WL.pure (v := vI 2) 11 rfl (Nat.le_of_ble_eq_true rfl) rfl rfl (x_load rfl rfl Try.underlying3 rfl (HP.cell (HP.startB hB) 0 rfl rfl)) ?_
  refine WL.nil ?_
  refine WQ.then ?_
  refine hK6 _ _ _ ?_
  refine WC.block ?_
  refine WC.seq fun K7 hK7 => ?_
  refine WC.region ?_
  refine WL.pure (v := .bool false) 13 rfl (Nat.le_of_ble_eq_true rfl) rfl rfl (x_eql rfl rfl rfl (by decide)) ?_
  refine WL.pure (v := .bool false) 12 rfl (Nat.le_of_ble_eq_true rfl) rfl rfl (by kernel_rfl) ?_
  refine WL.nil ?_
  refine WQ.then ?_
  refine hK7 _ _ _ ?_
  refine WC.no rfl ?_
  refine WC.seq fun K8 hK8 => ?_
  refine WC.region ?_
  refine WL.pure (v := .bool false) 15 rfl (Nat.le_of_ble_eq_true rfl) rfl rfl (x_eql rfl rfl rfl (by decide)) ?_
  refine WL.pure (v := .bool false) 14 rfl (Nat.le_of_ble_eq_true rfl) rfl rfl (by kernel_rfl) ?_
  refine WL.nil ?_
  refine WQ.then ?_
  refine hK8 _ _ _ ?_
  refine WC.sub (l' := [(0, vP q 0), (2, .bool false), (3, .bool false), (4, vI 0), (5, vI 0), (7, .bool false), (11, vI 2), (12, .bool false), (14, .bool false)]) ⟨rfl, rfl, rfl, rfl, rfl, rfl, rfl, rfl, rfl, trivial⟩ ?_
  refine WC.no rfl ?_
  refine WC.seq fun K9 hK9 => ?_
  refine WC.region ?_
  refine WL.pure (v := .bool true) 29 rfl (Nat.le_of_ble_eq_true rfl) rfl rfl (x_eql rfl rfl rfl (by decide)) ?_
  refine WL.pure (v := .bool true) 28 rfl (Nat.le_of_ble_eq_true rfl) rfl rfl (by kernel_rfl) ?_
  refine WL.nil ?_
  refine WQ.then ?_
  refine hK9 _ _ _ ?_
  refine WC.yes rfl ?_
  refine WC.confG (γ := Unit) [(28, .bool true), (29, .bool true), (0, vP q 0), (2, .bool false), (3, .bool false), (4, vI 0), (5, vI 0), (7, .bool false), (11, vI 2), (12, .bool false), (14, .bool false)] (fun _ => [vP q 0, vP q 0, vP q 0, vP q 0, vS c n n, vP q 0, vP q 0, vP q 1, vI (h : Int), vP c h, vI (C h), vP q 0, vP q 6, undef]) (fun _ D wz => HP (Out (QB q c n C h t p 2 wo tk)) w wz [(bif D 13 then Ent.cel q #[.slice (some ⟨c, 0, none⟩) n n, vI (h : Int), vI (t : Int), vI (p : Int), vI 2, vI wo, vI (C h)] 129 else Ent.cel q #[.slice (some ⟨c, 0, none⟩) n n, vI (h : Int), vI (t : Int), vI (p : Int), vI 2, vI wo, vI tk] 129), .cel c (irow n C) 3]) () (by kernel_rfl) ⟨rfl, rfl, rfl, rfl, rfl, rfl, rfl, rfl, rfl, rfl, rfl, trivial⟩ (by kernel_rfl) (by kernel_rfl) (by kernel_rfl) (fun _ => rfl) (by kernel_rfl) (HP.drew (HP.startB hB)) ?_ ?_
  · refine AllOk.cons ?o0 (AllOk.cons ?o1 (AllOk.cons ?o2 (AllOk.cons ?o3 (AllOk.cons ?o4 (AllOk.cons ?o5 (AllOk.cons ?o6 (AllOk.cons ?o7 (AllOk.cons ?o8 (AllOk.cons ?o9 (AllOk.cons ?o10 (AllOk.cons ?o11 (AllOk.cons ?o12 (AllOk.cons ?o13 (AllOk.nil _))))))))))))))
    case o0 =>
      intro g D wz hDi hdep hclo hW
      exact .inl ⟨rfl, rfl, .inl ⟨g, wz, fun _ _ => rfl, by kernel_rfl, hW⟩⟩
    case o1 =>
      intro g D wz hDi hdep hclo hW
      exact .inl ⟨rfl, rfl, .inl ⟨g, wz, fun _ _ => rfl, by kernel_rfl, hW⟩⟩
    case o2 =>
      intro g D wz hDi hdep hclo hW
      exact .inl ⟨rfl, rfl, .inl ⟨g, wz, fun _ _ => rfl, by kernel_rfl, hW⟩⟩
    case o3 =>
      intro g D wz hDi hdep hclo hW
      exact .inl ⟨rfl, rfl, .inl ⟨g, wz, fun _ _ => rfl, by kernel_rfl, hW⟩⟩
    case o4 =>
      intro g D wz hDi hdep hclo hW
      have hq : wz.cell? ⟨q, 0, none⟩ = some (vS c n n) := by
        cases hD2 : D 13 <;> simp only [hD2, cond_true, cond_false] at hW <;> exact HP.cell hW 0 rfl rfl
      exact .inl ⟨rfl, rfl, .inl ⟨g, wz, fun _ _ => rfl, x_load rfl rfl Try.underlying58 rfl hq, hW⟩⟩
    case o5 =>
      intro g D wz hDi hdep hclo hW
      exact .inl ⟨rfl, rfl, .inl ⟨g, wz, fun _ _ => rfl, by kernel_rfl, hW⟩⟩
    case o6 =>
      intro g D wz hDi hdep hclo hW
      exact .inl ⟨rfl, rfl, .inl ⟨g, wz, fun _ _ => rfl, by kernel_rfl, hW⟩⟩
    case o7 =>
      intro g D wz hDi hdep hclo hW
      exact .inl ⟨rfl, rfl, .inl ⟨g, wz, fun _ _ => rfl, by kernel_rfl, hW⟩⟩
    case o8 =>
      intro g D wz hDi hdep hclo hW
      have hq : wz.cell? ⟨q, 1, none⟩ = some (vI (h : Int)) := by
        cases hD2 : D 13 <;> simp only [hD2, cond_true, cond_false] at hW <;> exact HP.cell hW 0 rfl rfl
      exact .inl ⟨rfl, rfl, .inl ⟨g, wz, fun _ _ => rfl, x_load rfl rfl Try.underlying3 rfl hq, hW⟩⟩
    case o9 =>
      intro g D wz hDi hdep hclo hW
      exact .inl ⟨rfl, rfl, .inl ⟨g, wz, fun _ _ => rfl, x_idx (h) (h) rfl rfl rfl Try.underlying58 sz3 (by omega) (by omega) (by omega), hW⟩⟩
    case o10 =>
      intro g D wz hDi hdep hclo hW
      exact .inl ⟨rfl, rfl, .inl ⟨g, wz, fun _ _ => rfl, x_load rfl rfl Try.underlying3 rfl (HP.cell hW 1 rfl (irow_get (by omega) rfl)), hW⟩⟩
    case o11 =>
      intro g D wz hDi hdep hclo hW
      exact .inl ⟨rfl, rfl, .inl ⟨g, wz, fun _ _ => rfl, by kernel_rfl, hW⟩⟩
    case o12 =>
      intro g D wz hDi hdep hclo hW
      exact .inl ⟨rfl, rfl, .inl ⟨g, wz, fun _ _ => rfl, by kernel_rfl, hW⟩⟩
    case o13 =>
      intro g D wz hDi hdep hclo hW
      simp only [hDi, cond_false] at hW
      have h3 : HP (Out (QB q c n C h t p 2 wo tk)) w (wz.setCell ⟨q, 6, none⟩ (vI (C h))) [.cel q #[.slice (some ⟨c, 0, none⟩) n n, vI (h : Int), vI (t : Int), vI (p : Int), vI 2, vI wo, vI (C h)] 129, .cel c (irow n C) 3] := by have h4 := HP.set (off := 6) (v := vI (C h)) hW 0 rfl; exact h4
      exact .inl ⟨rfl, rfl, .inr (.inl ⟨_, x_store rfl rfl rfl sz3 rfl (HP.cell hW 0 rfl rfl) (HP.free hW 0 rfl), rfl, h3⟩)⟩
  intro g D w10 hall hH11
  simp only [hall 13 (by kernel_rfl), cond_true] at hH11
  clear hall
  refine WQ.sub (l' := [(0, vP q 0), (2, .bool false), (3, .bool false), (4, vI 0), (5, vI 0), (7, .bool false), (11, vI 2), (12, .bool false), (14, .bool false), (28, .bool true)]) ⟨rfl, rfl, rfl, rfl, rfl, rfl, rfl, rfl, rfl, rfl, trivial⟩ ?_
  refine WQ.inNormal ?_
  refine WQ.then ?_
  refine hK5 _ _ _ ?_
  refine WC.seq fun K12 hK12 => ?_
  refine WC.region ?_
  refine WL.pure (v := vP q 0) 61 rfl (Nat.le_of_ble_eq_true rfl) rfl rfl (by kernel_rfl) ?_
  refine WL.pure (v := vP q 0) 62 rfl (Nat.le_of_ble_eq_true rfl) rfl rfl (by kernel_rfl) ?_
  refine WL.pure (v := vP q 4) 63 rfl (Nat.le_of_ble_eq_true rfl) rfl rfl (by kernel_rfl) ?_
  refine WL.pure (v := vI 2) 64 rfl (Nat.le_of_ble_eq_true rfl) rfl rfl (x_load rfl rfl Try.underlying3 rfl (HP.cell hH11 0 rfl rfl)) ?_
  refine WL.pure (v := vI 3) 65 rfl (Nat.le_of_ble_eq_true rfl) rfl rfl (x_add (Z := 3) rfl rfl rfl (by omega) (by omega) (by omega)) ?_
  refine WL.pure (v := vP q 0) 66 rfl (Nat.le_of_ble_eq_true rfl) rfl rfl (by kernel_rfl) ?_
  refine WL.pure (v := vP q 4) 67 rfl (Nat.le_of_ble_eq_true rfl) rfl rfl (by kernel_rfl) ?_
  refine WL.store (H2 := [.cel q #[.slice (some ⟨c, 0, none⟩) n n, vI (h : Int), vI (t : Int), vI (p : Int), vI 3, vI wo, vI (C h)] 129, .cel c (irow n C) 3]) 0 hH11 rfl rfl rfl rfl rfl rfl sz3 rfl (Nat.le_of_ble_eq_true rfl) rfl rfl ?_
  intro w13 hH14
  refine WL.nil ?_
  refine WQ.then ?_
  refine hK12 _ _ _ ?_
  refine WC.sub (l' := [(0, vP q 0), (2, .bool false), (3, .bool false), (4, vI 0), (5, vI 0), (7, .bool false), (11, vI 2), (12, .bool false), (14, .bool false), (28, .bool true)]) ⟨rfl, rfl, rfl, rfl, rfl, rfl, rfl, rfl, rfl, rfl, trivial⟩ ?_
  refine WC.seq fun K15 hK15 => ?_
  refine WC.region ?_
  refine WL.pure (v := .bool false) 2 rfl (Nat.le_of_ble_eq_true rfl) rfl rfl (by kernel_rfl) ?_
  refine WL.pure (v := .bool false) 3 rfl (Nat.le_of_ble_eq_true rfl) rfl rfl (by kernel_rfl) ?_
  refine WL.pure (v := vI 0) 4 rfl (Nat.le_of_ble_eq_true rfl) rfl rfl (by kernel_rfl) ?_
  refine WL.pure (v := vI 0) 5 rfl (Nat.le_of_ble_eq_true rfl) rfl rfl (by kernel_rfl) ?_
  refine WL.nil ?_
  refine WQ.then ?_
  refine hK15 _ _ _ ?_
  refine WC.ret ?_
  refine WQ.ret4 2 3 4 5 rfl rfl rfl rfl rfl ?_
  exact ⟨rfl, hH14⟩
set_option maxRecDepth 20000 in
set_option maxHeartbeats 4000000 in
theorem StepTake_3 (q c n : Nat) (C : Nat → Int) (h t p : Nat) (wo tk : Int) (h2 : Nat) (w : World) (hB : OwnB w (QB q c n C h t p 3 wo tk)) (hn : 2 ≤ n ∧ n ≤ 9) (hh : h < n) (ht : t < n) (hf : (h + 1) % n = h2) :
    Calls Try.prog 81 #[vP q 0] w fun e w' => e = .returned (.tuple #[.bool true, .bool true, vI tk, vI 0]) ∧ HP (Out (QB q c n C h t p 3 wo tk)) w w' (QB q c n C h2 t p 0 wo tk) := by
  refine calls_of Try.func81 rfl (m := 68) rfl [(0, vP q 0)] (Fr_enter [vP q 0] 68 (Nat.le_of_ble_eq_true rfl)) ?_
  refine WC.seq fun K1 hK1 => ?_
  refine WC.region ?_
  refine WL.pure (v := .bool false) 2 rfl (Nat.le_of_ble_eq_true rfl) rfl rfl (by kernel_rfl) ?_
  refine WL.pure (v := .bool false) 3 rfl (Nat.le_of_ble_eq_true rfl) rfl rfl (by kernel_rfl) ?_
  refine WL.pure (v := vI 0) 4 rfl (Nat.le_of_ble_eq_true rfl) rfl rfl (by kernel_rfl) ?_
  refine WL.pure (v := vI 0) 5 rfl (Nat.le_of_ble_eq_true rfl) rfl rfl (by kernel_rfl) ?_
  refine WL.nil ?_
  refine WQ.then ?_
  refine hK1 _ _ _ ?_
  refine WC.seq fun K2 hK2 => ?_
  refine WC.seq fun K3 hK3 => ?_
  refine WC.region ?_
  refine WL.pure (v := vP q 0) 6 rfl (Nat.le_of_ble_eq_true rfl) rfl rfl (by kernel_rfl) ?_
  refine WL.call (f := 96) (args := #[vP q 0]) 7 rfl (Nat.le_of_ble_eq_true rfl) rfl rfl (by kernel_rfl) ?_
  refine (qnone_any q c n _ (HP.cell (HP.startB hB) 0 rfl rfl) hn).mono ?_
  rintro e w4 ⟨rfl, rfl⟩
  refine ⟨_, rfl, ?_⟩
  refine WL.nil ?_
  refine WQ.then ?_
  refine hK3 _ _ _ ?_
  refine WC.no rfl ?_
  refine WC.skip ?_
  refine WQ.then ?_
  refine hK2 _ _ _ ?_
  refine WC.seq fun K5 hK5 => ?_
  refine WC.seq fun K6 hK6 => ?_
  refine WC.region ?_
  refine WL.pure (v := vP q 0) 8 rfl (Nat.le_of_ble_eq_true rfl) rfl rfl (by kernel_rfl) ?_
  refine WL.pure (v := vP q 0) 9 rfl (Nat.le_of_ble_eq_true rfl) rfl rfl (by kernel_rfl) ?_
  refine WL.pure (v := vP q 4) 10 rfl (Nat.le_of_ble_eq_true rfl) rfl rfl (by kernel_rfl) ?_
  refine WL.pure (v := vI 3) 11 rfl (Nat.le_of_ble_eq_true rfl) rfl rfl (x_load rfl rfl Try.underlying3 rfl (HP.cell (HP.startB hB) 0 rfl rfl)) ?_
  refine WL.nil ?_
  refine WQ.then ?_
  refine hK6 _ _ _ ?_
  refine WC.block ?_
  refine WC.seq fun K7 hK7 => ?_
  refine WC.region ?_
  refine WL.pure (v := .bool false) 13 rfl (Nat.le_of_ble_eq_true rfl) rfl rfl (x_eql rfl rfl rfl (by decide)) ?_
  refine WL.pure (v := .bool false) 12 rfl (Nat.le_of_ble_eq_true rfl) rfl rfl (by kernel_rfl) ?_
  refine WL.nil ?_
  refine WQ.then ?_
  refine hK7 _ _ _ ?_
  refine WC.no rfl ?_
  refine WC.seq fun K8 hK8 => ?_
  refine WC.region ?_
  refine WL.pure (v := .bool false) 15 rfl (Nat.le_of_ble_eq_true rfl) rfl rfl (x_eql rfl rfl rfl (by decide)) ?_
  refine WL.pure (v := .bool false) 14 rfl (Nat.le_of_ble_eq_true rfl) rfl rfl (by kernel_rfl) ?_
  refine WL.nil ?_
  refine WQ.then ?_
  refine hK8 _ _ _ ?_
  refine WC.sub (l' := [(0, vP q 0), (2, .bool false), (3, .bool false), (4, vI 0), (5, vI 0), (7, .bool false), (11, vI 3), (12, .bool false), (14, .bool false)]) ⟨rfl, rfl, rfl, rfl, rfl, rfl, rfl, rfl, rfl, trivial⟩ ?_
  refine WC.no rfl ?_
  refine WC.seq fun K9 hK9 => ?_
  refine WC.region ?_
  refine WL.pure (v := .bool false) 29 rfl (Nat.le_of_ble_eq_true rfl) rfl rfl (x_eql rfl rfl rfl (by decide)) ?_
  refine WL.pure (v := .bool false) 28 rfl (Nat.le_of_ble_eq_true rfl) rfl rfl (by kernel_rfl) ?_
  refine WL.nil ?_
  refine WQ.then ?_
  refine hK9 _ _ _ ?_
  refine WC.no rfl ?_
  refine WC.seq fun K10 hK10 => ?_
  refine WC.region ?_
  refine WL.pure (v := .bool true) 44 rfl (Nat.le_of_ble_eq_true rfl) rfl rfl (x_eql rfl rfl rfl (by decide)) ?_
  refine WL.pure (v := .bool true) 43 rfl (Nat.le_of_ble_eq_true rfl) rfl rfl (by kernel_rfl) ?_
  refine WL.nil ?_
  refine WQ.then ?_
  refine hK10 _ _ _ ?_
  refine WC.yes rfl ?_
  refine WC.seq fun K11 hK11 => ?_
  refine WC.region ?_
  refine WL.pure (v := vP q 0) 45 rfl (Nat.le_of_ble_eq_true rfl) rfl rfl (by kernel_rfl) ?_
  refine WL.pure (v := vP q 0) 46 rfl (Nat.le_of_ble_eq_true rfl) rfl rfl (by kernel_rfl) ?_
  refine WL.pure (v := vP q 0) 47 rfl (Nat.le_of_ble_eq_true rfl) rfl rfl (by kernel_rfl) ?_
  refine WL.pure (v := vP q 0) 48 rfl (Nat.le_of_ble_eq_true rfl) rfl rfl (by kernel_rfl) ?_
  refine WL.pure (v := vP q 0) 49 rfl (Nat.le_of_ble_eq_true rfl) rfl rfl (by kernel_rfl) ?_
  refine WL.pure (v := vP q 1) 50 rfl (Nat.le_of_ble_eq_true rfl) rfl rfl (by kernel_rfl) ?_
  refine WL.pure (v := vI (h : Int)) 51 rfl (Nat.le_of_ble_eq_true rfl) rfl rfl (x_load rfl rfl Try.underlying3 rfl (HP.cell (HP.startB hB) 0 rfl rfl)) ?_
  refine WL.call (f := 98) (args := #[vP q 0, vI (h : Int)]) 52 rfl (Nat.le_of_ble_eq_true rfl) rfl rfl (by kernel_rfl) ?_
  refine (behind_any q c n h h2 _ (HP.cell (HP.startB hB) 0 rfl rfl) hn hh hf).mono ?_
  rintro e w12 ⟨rfl, rfl⟩
  refine ⟨_, rfl, ?_⟩
  refine WL.pure (v := vP q 0) 53 rfl (Nat.le_of_ble_eq_true rfl) rfl rfl (by kernel_rfl) ?_
  refine WL.pure (v := vP q 1) 54 rfl (Nat.le_of_ble_eq_true rfl) rfl rfl (by kernel_rfl) ?_
  refine WL.store (H2 := [.cel q #[.slice (some ⟨c, 0, none⟩) n n, vI (h2 : Int), vI (t : Int), vI (p : Int), vI 3, vI wo, vI tk] 129, .cel c (irow n C) 3]) 0 (HP.startB hB) rfl rfl rfl rfl rfl rfl sz3 rfl (Nat.le_of_ble_eq_true rfl) rfl rfl ?_
  intro w13 hH14
  refine WL.pure (v := vP q 0) 55 rfl (Nat.le_of_ble_eq_true rfl) rfl rfl (by kernel_rfl) ?_
  refine WL.pure (v := vP q 4) 56 rfl (Nat.le_of_ble_eq_true rfl) rfl rfl (by kernel_rfl) ?_
  refine WL.store (H2 := [.cel q #[.slice (some ⟨c, 0, none⟩) n n, vI (h2 : Int), vI (t : Int), vI (p : Int), vI 0, vI wo, vI tk] 129, .cel c (irow n C) 3]) 0 hH14 rfl rfl rfl rfl rfl rfl sz3 rfl (Nat.le_of_ble_eq_true rfl) rfl rfl ?_
  intro w15 hH16
  refine WL.nil ?_
  refine WQ.then ?_
  refine hK11 _ _ _ ?_
  refine WC.sub (l' := [(0, vP q 0), (2, .bool false), (3, .bool false), (4, vI 0), (5, vI 0), (7, .bool false), (11, vI 3), (12, .bool false), (14, .bool false), (28, .bool false), (43, .bool true)]) ⟨rfl, rfl, rfl, rfl, rfl, rfl, rfl, rfl, rfl, rfl, rfl, trivial⟩ ?_
  refine WC.seq fun K17 hK17 => ?_
  refine WC.still (by kernel_rfl) (by kernel_rfl) ?_
  have hH18 : HP (Out (QB q c n C h t p 3 wo tk)) w _ [.cel q #[.slice (some ⟨c, 0, none⟩) n n, vI (h2 : Int), vI (t : Int), vI (p : Int), vI 0, vI wo, vI tk] 129, .cel c (irow n C) 3] := HP.drew hH16
  refine WS.val (v := vP q 0) 57 rfl (Nat.le_of_ble_eq_true rfl) rfl rfl (by kernel_rfl) ?_
  refine WS.val (v := vP q 0) 58 rfl (Nat.le_of_ble_eq_true rfl) rfl rfl (by kernel_rfl) ?_
  refine WS.val (v := vP q 6) 59 rfl (Nat.le_of_ble_eq_true rfl) rfl rfl (by kernel_rfl) ?_
  refine WS.val (v := vI tk) 60 rfl (Nat.le_of_ble_eq_true rfl) rfl rfl (x_load rfl rfl Try.underlying3 rfl (HP.cell hH18 0 rfl rfl)) ?_
  refine WS.val (v := .bool true) 2 rfl (Nat.le_of_ble_eq_true rfl) rfl rfl (by kernel_rfl) ?_
  refine WS.val (v := .bool true) 3 rfl (Nat.le_of_ble_eq_true rfl) rfl rfl (by kernel_rfl) ?_
  refine WS.val (v := vI tk) 4 rfl (Nat.le_of_ble_eq_true rfl) rfl rfl (by kernel_rfl) ?_
  refine WS.val (v := vI 0) 5 rfl (Nat.le_of_ble_eq_true rfl) rfl rfl (by kernel_rfl) ?_
  refine WS.nilQ ?_
  refine WQ.then ?_
  refine hK17 _ _ _ ?_
  refine WC.sub (l' := [(0, vP q 0), (2, .bool true), (3, .bool true), (4, vI tk), (5, vI 0), (7, .bool false), (11, vI 3), (12, .bool false), (14, .bool false), (28, .bool false), (43, .bool true)]) ⟨rfl, rfl, rfl, rfl, rfl, rfl, rfl, rfl, rfl, rfl, rfl, trivial⟩ ?_
  refine WC.ret ?_
  refine WQ.inRet ?_
  refine WQ.thenRet ?_
  refine WQ.ret4 2 3 4 5 rfl rfl rfl rfl rfl ?_
  exact ⟨rfl, hH18⟩
set_option maxRecDepth 20000 in
set_option maxHeartbeats 4000000 in
theorem beginP (q c n : Nat) (C : Nat → Int) (h t k : Nat) (wo tk : Int) (w : World) (hB : OwnB w (QB q c n C h t 0 k wo tk)) (hn : 2 ≤ n ∧ n ≤ 9) (hh : h < n) (ht : t < n) :
    Calls Try.prog 97 #[vP q 0, vP q 3] w fun e w' => e = .returned (vI 0) ∧ HP (Out (QB q c n C h t 0 k wo tk)) w w' (QB q c n C h t 1 k wo tk) := by
  refine calls_of Try.func97 rfl (m := 11) rfl [(0, vP q 0), (1, vP q 3)] (Fr_enter [vP q 0, vP q 3] 11 (Nat.le_of_ble_eq_true rfl)) ?_
  refine WC.seq fun K1 hK1 => ?_
  refine WC.region ?_
  refine WL.pure (v := vI 0) 4 rfl (Nat.le_of_ble_eq_true rfl) rfl rfl (by kernel_rfl) ?_
  refine WL.nil ?_
  refine WQ.then ?_
  refine hK1 _ _ _ ?_
  refine WC.seq fun K2 hK2 => ?_
  refine WC.seq fun K3 hK3 => ?_
  refine WC.region ?_
  refine WL.pure (v := vP q 3) 5 rfl (Nat.le_of_ble_eq_true rfl) rfl rfl (by kernel_rfl) ?_
  refine WL.pure (v := vP q 3) 6 rfl (Nat.le_of_ble_eq_true rfl) rfl rfl (by kernel_rfl) ?_
  refine WL.pure (v := vI 0) 7 rfl (Nat.le_of_ble_eq_true rfl) rfl rfl (x_load rfl rfl Try.underlying3 rfl (HP.cell (HP.startB hB) 0 rfl rfl)) ?_
  refine WL.pure (v := .bool false) 8 rfl (Nat.le_of_ble_eq_true rfl) rfl rfl (x_neq rfl rfl rfl (by decide)) ?_
  refine WL.nil ?_
  refine WQ.then ?_
  refine hK3 _ _ _ ?_
  refine WC.no rfl ?_
  refine WC.skip ?_
  refine WQ.then ?_
  refine hK2 _ _ _ ?_
  refine WC.seq fun K4 hK4 => ?_
  refine WC.region ?_
  refine WL.pure (v := vP q 3) 9 rfl (Nat.le_of_ble_eq_true rfl) rfl rfl (by kernel_rfl) ?_
  refine WL.pure (v := vP q 3) 10 rfl (Nat.le_of_ble_eq_true rfl) rfl rfl (by kernel_rfl) ?_
  refine WL.store (H2 := [.cel q #[.slice (some ⟨c, 0, none⟩) n n, vI (h : Int), vI (t : Int), vI 1, vI (k : Int), vI wo, vI tk] 129, .cel c (irow n C) 3]) 0 (HP.startB hB) rfl rfl rfl rfl rfl rfl sz3 rfl (Nat.le_of_ble_eq_true rfl) rfl rfl ?_
  intro w5 hH6
  refine WL.nil ?_
  refine WQ.then ?_
  refine hK4 _ _ _ ?_
  refine WC.sub (l' := [(1, vP q 3), (4, vI 0), (8, .bool false)]) ⟨rfl, rfl, rfl, trivial⟩ ?_
  refine WC.seq fun K7 hK7 => ?_
  refine WC.region ?_
  refine WL.pure (v := vI 0) 4 rfl (Nat.le_of_ble_eq_true rfl) rfl rfl (by kernel_rfl) ?_
  refine WL.nil ?_
  refine WQ.then ?_
  refine hK7 _ _ _ ?_
  refine WC.ret ?_
  refine WQ.ret1 4 rfl rfl ?_
  exact ⟨rfl, hH6⟩
set_option maxRecDepth 20000 in
set_option maxHeartbeats 4000000 in
theorem beginK (q c n : Nat) (C : Nat → Int) (h t p : Nat) (wo tk : Int) (w : World) (hB : OwnB w (QB q c n C h t p 0 wo tk)) (hn : 2 ≤ n ∧ n ≤ 9) (hh : h < n) (ht : t < n) :
    Calls Try.prog 97 #[vP q 0, vP q 4] w fun e w' => e = .returned (vI 0) ∧ HP (Out (QB q c n C h t p 0 wo tk)) w w' (QB q c n C h t p 1 wo tk) := by
  refine calls_of Try.func97 rfl (m := 11) rfl [(0, vP q 0), (1, vP q 4)] (Fr_enter [vP q 0, vP q 4] 11 (Nat.le_of_ble_eq_true rfl)) ?_
  refine WC.seq fun K1 hK1 => ?_
  refine WC.region ?_
  refine WL.pure (v := vI 0) 4 rfl (Nat.le_of_ble_eq_true rfl) rfl rfl (by kernel_rfl) ?_
  refine WL.nil ?_
  refine WQ.then ?_
  refine hK1 _ _ _ ?_
  refine WC.seq fun K2 hK2 => ?_
  refine WC.seq fun K3 hK3 => ?_
  refine WC.region ?_
  refine WL.pure (v := vP q 4) 5 rfl (Nat.le_of_ble_eq_true rfl) rfl rfl (by kernel_rfl) ?_
  refine WL.pure (v := vP q 4) 6 rfl (Nat.le_of_ble_eq_true rfl) rfl rfl (by kernel_rfl) ?_
  refine WL.pure (v := vI 0) 7 rfl (Nat.le_of_ble_eq_true rfl) rfl rfl (x_load rfl rfl Try.underlying3 rfl (HP.cell (HP.startB hB) 0 rfl rfl)) ?_
  refine WL.pure (v := .bool false) 8 rfl (Nat.le_of_ble_eq_true rfl) rfl rfl (x_neq rfl rfl rfl (by decide)) ?_
  refine WL.nil ?_
  refine WQ.then ?_
  refine hK3 _ _ _ ?_
  refine WC.no rfl ?_
  refine WC.skip ?_
  refine WQ.then ?_
  refine hK2 _ _ _ ?_
  refine WC.seq fun K4 hK4 => ?_
  refine WC.region ?_
  refine WL.pure (v := vP q 4) 9 rfl (Nat.le_of_ble_eq_true rfl) rfl rfl (by kernel_rfl) ?_
  refine WL.pure (v := vP q 4) 10 rfl (Nat.le_of_ble_eq_true rfl) rfl rfl (by kernel_rfl) ?_
  refine WL.store (H2 := [.cel q #[.slice (some ⟨c, 0, none⟩) n n, vI (h : Int), vI (t : Int), vI (p : Int), vI 1, vI wo, vI tk] 129, .cel c (irow n C) 3]) 0 (HP.startB hB) rfl rfl rfl rfl rfl rfl sz3 rfl (Nat.le_of_ble_eq_true rfl) rfl rfl ?_
  intro w5 hH6
  refine WL.nil ?_
  refine WQ.then ?_
  refine hK4 _ _ _ ?_
  refine WC.sub (l' := [(1, vP q 4), (4, vI 0), (8, .bool false)]) ⟨rfl, rfl, rfl, trivial⟩ ?_
  refine WC.seq fun K7 hK7 => ?_
  refine WC.region ?_
  refine WL.pure (v := vI 0) 4 rfl (Nat.le_of_ble_eq_true rfl) rfl rfl (by kernel_rfl) ?_
  refine WL.nil ?_
  refine WQ.then ?_
  refine hK7 _ _ _ ?_
  refine WC.ret ?_
  refine WQ.ret1 4 rfl rfl ?_
  exact ⟨rfl, hH6⟩
set_option maxRecDepth 20000 in
set_option maxHeartbeats 4000000 in
theorem BeginPut_any (q c n : Nat) (C : Nat → Int) (h t k : Nat) (wo tk : Int) (y : Int) (w : World) (hB : OwnB w (QB q c n C h t 0 k wo tk)) (hn : 2 ≤ n ∧ n ≤ 9) (hh : h < n) (ht : t < n) (hy : wd y = true) :
    Calls Try.prog 78 #[vP q 0, vI y] w fun e w' => e = .returned (vI 0) ∧ HP (Out (QB q c n C h t 0 k wo tk)) w w' (QB q c n C h t 1 k y tk) := by
  refine calls_of Try.func78 rfl (m := 25) rfl [(0, vP q 0), (1, vI y)] (Fr_enter [vP q 0, vI y] 25 (Nat.le_of_ble_eq_true rfl)) ?_
  refine WC.seq fun K1 hK1 => ?_
  refine WC.region ?_
  refine WL.pure (v := vI 0) 4 rfl (Nat.le_of_ble_eq_true rfl) rfl rfl (by kernel_rfl) ?_
  refine WL.nil ?_
  refine WQ.then ?_
  refine hK1 _ _ _ ?_
  refine WC.seq fun K2 hK2 => ?_
  refine WC.seq fun K3 hK3 => ?_
  refine WC.region ?_
  refine WL.pure (v := vP q 0) 6 rfl (Nat.le_of_ble_eq_true rfl) rfl rfl (by kernel_rfl) ?_
  refine WL.call (f := 96) (args := #[vP q 0]) 7 rfl (Nat.le_of_ble_eq_true rfl) rfl rfl (by kernel_rfl) ?_
  refine (qnone_any q c n _ (HP.cell (HP.startB hB) 0 rfl rfl) hn).mono ?_
  rintro e w4 ⟨rfl, rfl⟩
  refine ⟨_, rfl, ?_⟩
  refine WL.pure (v := .bool false) 8 rfl (Nat.le_of_ble_eq_true rfl) rfl rfl (by kernel_rfl) ?_
  refine WL.pure (v := vI y) 9 rfl (Nat.le_of_ble_eq_true rfl) rfl rfl (by kernel_rfl) ?_
  refine WL.call (f := 76) (args := #[vI y]) 10 rfl (Nat.le_of_ble_eq_true rfl) rfl rfl (by kernel_rfl) ?_
  refine (qword_any y _ hy).mono ?_
  rintro e w5 ⟨rfl, rfl⟩
  refine ⟨_, rfl, ?_⟩
  refine WL.pure (v := .bool false) 11 rfl (Nat.le_of_ble_eq_true rfl) rfl rfl (by kernel_rfl) ?_
  refine WL.pure (v := .bool false) 12 rfl (Nat.le_of_ble_eq_true rfl) rfl rfl (by kernel_rfl) ?_
  refine WL.nil ?_
  refine WQ.then ?_
  refine hK3 _ _ _ ?_
  refine WC.sub (l' := [(0, vP q 0), (1, vI y), (4, vI 0), (12, .bool false)]) ⟨rfl, rfl, rfl, rfl, trivial⟩ ?_
  refine WC.no rfl ?_
  refine WC.skip ?_
  refine WQ.then ?_
  refine hK2 _ _ _ ?_
  refine WC.seq fun K6 hK6 => ?_
  refine WC.region ?_
  refine WL.pure (v := vP q 0) 13 rfl (Nat.le_of_ble_eq_true rfl) rfl rfl (by kernel_rfl) ?_
  refine WL.pure (v := vP q 0) 14 rfl (Nat.le_of_ble_eq_true rfl) rfl rfl (by kernel_rfl) ?_
  refine WL.pure (v := vP q 0) 15 rfl (Nat.le_of_ble_eq_true rfl) rfl rfl (by kernel_rfl) ?_
  refine WL.pure (v := vP q 3) 16 rfl (Nat.le_of_ble_eq_true rfl) rfl rfl (by kernel_rfl) ?_
  refine WL.call (f := 97) (args := #[vP q 0, vP q 3]) 17 rfl (Nat.le_of_ble_eq_true rfl) rfl rfl (by kernel_rfl) ?_
  refine (beginP q c n C h t k wo tk _ (HP.ownB (A := []) (HP.startB hB)) hn hh ht).mono ?_
  rintro e w4 ⟨rfl, hb4⟩
  refine ⟨_, rfl, ?_⟩
  have hF := HP.exch (A := []) (HP.startB hB) hb4
  have hH7 : HP (Out (QB q c n C h t 0 k wo tk)) w _ [.cel q #[.slice (some ⟨c, 0, none⟩) n n, vI (h : Int), vI (t : Int), vI 1, vI (k : Int), vI wo, vI tk] 129, .cel c (irow n C) 3] := hF
  refine WL.pure (v := vI 0) 5 rfl (Nat.le_of_ble_eq_true rfl) rfl rfl (by kernel_rfl) ?_
  refine WL.nil ?_
  refine WQ.then ?_
  refine hK6 _ _ _ ?_
  refine WC.seq fun K8 hK8 => ?_
  refine WC.seq fun K9 hK9 => ?_
  refine WC.region ?_
  refine WL.pure (v := vI 0) 18 rfl (Nat.le_of_ble_eq_true rfl) rfl rfl (by kernel_rfl) ?_
  refine WL.pure (v := .bool true) 19 rfl (Nat.le_of_ble_eq_true rfl) rfl rfl (x_eql rfl rfl rfl (by decide)) ?_
  refine WL.nil ?_
  refine WQ.then ?_
  refine hK9 _ _ _ ?_
  refine WC.sub (l' := [(0, vP q 0), (1, vI y), (4, vI 0), (5, vI 0), (12, .bool false), (19, .bool true)]) ⟨rfl, rfl, rfl, rfl, rfl, rfl, trivial⟩ ?_
  refine WC.yes rfl ?_
  refine WC.region ?_
  refine WL.pure (v := vP q 0) 20 rfl (Nat.le_of_ble_eq_true rfl) rfl rfl (by kernel_rfl) ?_
  refine WL.pure (v := vI y) 21 rfl (Nat.le_of_ble_eq_true rfl) rfl rfl (by kernel_rfl) ?_
  refine WL.pure (v := vP q 0) 22 rfl (Nat.le_of_ble_eq_true rfl) rfl rfl (by kernel_rfl) ?_
  refine WL.pure (v := vP q 5) 23 rfl (Nat.le_of_ble_eq_true rfl) rfl rfl (by kernel_rfl) ?_
  refine WL.store (H2 := [.cel q #[.slice (some ⟨c, 0, none⟩) n n, vI (h : Int), vI (t : Int), vI 1, vI (k : Int), vI y, vI tk] 129, .cel c (irow n C) 3]) 0 hH7 rfl rfl rfl rfl rfl rfl sz3 rfl (Nat.le_of_ble_eq_true rfl) rfl rfl ?_
  intro w10 hH11
  refine WL.nil ?_
  refine WQ.then ?_
  refine hK8 _ _ _ ?_
  refine WC.seq fun K12 hK12 => ?_
  refine WC.region ?_
  refine WL.pure (v := vI 0) 24 rfl (Nat.le_of_ble_eq_true rfl) rfl rfl (by kernel_rfl) ?_
  refine WL.pure (v := vI 0) 4 rfl (Nat.le_of_ble_eq_true rfl) rfl rfl (by kernel_rfl) ?_
  refine WL.nil ?_
  refine WQ.then ?_
  refine hK12 _ _ _ ?_
  refine WC.sub (l' := [(0, vP q 0), (1, vI y), (4, vI 0), (5, vI 0), (12, .bool false), (19, .bool true)]) ⟨rfl, rfl, rfl, rfl, rfl, rfl, trivial⟩ ?_
  refine WC.ret ?_
  refine WQ.ret1 4 rfl rfl ?_
  exact ⟨rfl, hH11⟩
set_option maxRecDepth 20000 in
set_option maxHeartbeats 4000000 in
theorem BeginTake_any (q c n : Nat) (C : Nat → Int) (h t p : Nat) (wo tk : Int) (w : World) (hB : OwnB w (QB q c n C h t p 0 wo tk)) (hn : 2 ≤ n ∧ n ≤ 9) (hh : h < n) (ht : t < n) :
    Calls Try.prog 80 #[vP q 0] w fun e w' => e = .returned (vI 0) ∧ HP (Out (QB q c n C h t p 0 wo tk)) w w' (QB q c n C h t p 1 wo tk) := by
  refine calls_of Try.func80 rfl (m := 10) rfl [(0, vP q 0)] (Fr_enter [vP q 0] 10 (Nat.le_of_ble_eq_true rfl)) ?_
  refine WC.seq fun K1 hK1 => ?_
  refine WC.region ?_
  refine WL.pure (v := vI 0) 2 rfl (Nat.le_of_ble_eq_true rfl) rfl rfl (by kernel_rfl) ?_
  refine WL.nil ?_
  refine WQ.then ?_
  refine hK1 _ _ _ ?_
  refine WC.seq fun K2 hK2 => ?_
  refine WC.seq fun K3 hK3 => ?_
  refine WC.region ?_
  refine WL.pure (v := vP q 0) 3 rfl (Nat.le_of_ble_eq_true rfl) rfl rfl (by kernel_rfl) ?_
  refine WL.call (f := 96) (args := #[vP q 0]) 4 rfl (Nat.le_of_ble_eq_true rfl) rfl rfl (by kernel_rfl) ?_
  refine (qnone_any q c n _ (HP.cell (HP.startB hB) 0 rfl rfl) hn).mono ?_
  rintro e w4 ⟨rfl, rfl⟩
  refine ⟨_, rfl, ?_⟩
  refine WL.nil ?_
  refine WQ.then ?_
  refine hK3 _ _ _ ?_
  refine WC.no rfl ?_
  refine WC.skip ?_
  refine WQ.then ?_
  refine hK2 _ _ _ ?_
  refine WC.seq fun K5 hK5 => ?_
  refine WC.region ?_
  refine WL.pure (v := vP q 0) 5 rfl (Nat.le_of_ble_eq_true rfl) rfl rfl (by kernel_rfl) ?_
  refine WL.pure (v := vP q 0) 6 rfl (Nat.le_of_ble_eq_true rfl) rfl rfl (by kernel_rfl) ?_
  refine WL.pure (v := vP q 0) 7 rfl (Nat.le_of_ble_eq_true rfl) rfl rfl (by kernel_rfl) ?_
  refine WL.pure (v := vP q 4) 8 rfl (Nat.le_of_ble_eq_true rfl) rfl rfl (by kernel_rfl) ?_
  refine WL.call (f := 97) (args := #[vP q 0, vP q 4]) 9 rfl (Nat.le_of_ble_eq_true rfl) rfl rfl (by kernel_rfl) ?_
  refine (beginK q c n C h t p wo tk _ (HP.ownB (A := []) (HP.startB hB)) hn hh ht).mono ?_
  rintro e w4 ⟨rfl, hb4⟩
  refine ⟨_, rfl, ?_⟩
  have hF := HP.exch (A := []) (HP.startB hB) hb4
  have hH6 : HP (Out (QB q c n C h t p 0 wo tk)) w _ [.cel q #[.slice (some ⟨c, 0, none⟩) n n, vI (h : Int), vI (t : Int), vI (p : Int), vI 1, vI wo, vI tk] 129, .cel c (irow n C) 3] := hF
  refine WL.pure (v := vI 0) 2 rfl (Nat.le_of_ble_eq_true rfl) rfl rfl (by kernel_rfl) ?_
  refine WL.nil ?_
  refine WQ.then ?_
  refine hK5 _ _ _ ?_
  refine WC.sub (l' := [(0, vP q 0), (2, vI 0), (4, .bool false)]) ⟨rfl, rfl, rfl, trivial⟩ ?_
  refine WC.ret ?_
  refine WQ.ret1 2 rfl rfl ?_
  exact ⟨rfl, hH6⟩
set_option maxRecDepth 20000 in
set_option maxHeartbeats 4000000 in
theorem Busy_00 (q c n : Nat) (C : Nat → Int) (h t : Nat) (wo tk : Int) (w : World) (hB : OwnB w (QB q c n C h t 0 0 wo tk)) (hn : 2 ≤ n ∧ n ≤ 9) (hh : h < n) (ht : t < n) :
    Calls Try.prog 77 #[vP q 0] w fun e w' => e = .returned (.tuple #[.bool false, .bool false]) ∧ Below w.heap.size w w' := by
  have hc := HP.cell (HP.startB hB) 0 (off := 0) rfl rfl
  have hp3 := HP.cell (HP.startB hB) 0 (off := 3) rfl rfl
  have hk4 := HP.cell (HP.startB hB) 0 (off := 4) rfl rfl
  refine calls_of Try.func77 rfl (m := 24) rfl [(0, vP q 0)] (Fr_enter [vP q 0] 24 (Nat.le_of_ble_eq_true rfl)) ?_
  have hH1 : HP Tr w w [] := HP.refl w
  refine WC.seq fun K2 hK2 => ?_
  refine WC.region ?_
  refine WL.pure (v := .bool false) 2 rfl (Nat.le_of_ble_eq_true rfl) rfl rfl (by kernel_rfl) ?_
  refine WL.pure (v := .bool false) 3 rfl (Nat.le_of_ble_eq_true rfl) rfl rfl (by kernel_rfl) ?_
  refine WL.nil ?_
  refine WQ.then ?_
  refine hK2 _ _ _ ?_
  refine WC.seq fun K3 hK3 => ?_
  refine WC.still (by kernel_rfl) (by kernel_rfl) ?_
  have hH4 : HP Tr w _ [] := HP.drew hH1
  refine WS.val (v := vP q 0) 4 rfl (Nat.le_of_ble_eq_true rfl) rfl rfl (by kernel_rfl) ?_
  refine WS.call (v := .bool false) (f := 96) (args := #[vP q 0]) 5 rfl (Nat.le_of_ble_eq_true rfl) rfl rfl (by kernel_rfl) ((qnone_any q c n _ (HP.old hH4 trivial hc) hn).mono fun e w2 h => ⟨h.1, h.2.symm⟩) ?_
  refine WS.val (v := .bool true) 6 rfl (Nat.le_of_ble_eq_true rfl) rfl rfl (by kernel_rfl) ?_
  refine WS.val (v := .bool true) 7 rfl (Nat.le_of_ble_eq_true rfl) rfl rfl (by kernel_rfl) ?_
  refine WS.val (v := vP q 0) 8 rfl (Nat.le_of_ble_eq_true rfl) rfl rfl (by kernel_rfl) ?_
  refine WS.val (v := vP q 0) 9 rfl (Nat.le_of_ble_eq_true rfl) rfl rfl (by kernel_rfl) ?_
  refine WS.val (v := vP q 3) 10 rfl (Nat.le_of_ble_eq_true rfl) rfl rfl (by kernel_rfl) ?_
  refine WS.val (v := vI 0) 11 rfl (Nat.le_of_ble_eq_true rfl) rfl rfl (x_load rfl rfl Try.underlying3 rfl (HP.old hH4 trivial hp3)) ?_
  refine WS.val (v := .bool false) 12 rfl (Nat.le_of_ble_eq_true rfl) rfl rfl (x_neq rfl rfl rfl (by decide)) ?_
  refine WS.val (v := .bool false) 13 rfl (Nat.le_of_ble_eq_true rfl) rfl rfl (by kernel_rfl) ?_
  refine WS.val (v := vP q 0) 14 rfl (Nat.le_of_ble_eq_true rfl) rfl rfl (by kernel_rfl) ?_
  refine WS.call (v := .bool false) (f := 96) (args := #[vP q 0]) 15 rfl (Nat.le_of_ble_eq_true rfl) rfl rfl (by kernel_rfl) ((qnone_any q c n _ (HP.old hH4 trivial hc) hn).mono fun e w2 h => ⟨h.1, h.2.symm⟩) ?_
  refine WS.val (v := .bool true) 16 rfl (Nat.le_of_ble_eq_true rfl) rfl rfl (by kernel_rfl) ?_
  refine WS.val (v := .bool true) 17 rfl (Nat.le_of_ble_eq_true rfl) rfl rfl (by kernel_rfl) ?_
  refine WS.val (v := vP q 0) 18 rfl (Nat.le_of_ble_eq_true rfl) rfl rfl (by kernel_rfl) ?_
  refine WS.val (v := vP q 0) 19 rfl (Nat.le_of_ble_eq_true rfl) rfl rfl (by kernel_rfl) ?_
  refine WS.val (v := vP q 4) 20 rfl (Nat.le_of_ble_eq_true rfl) rfl rfl (by kernel_rfl) ?_
  refine WS.val (v := vI 0) 21 rfl (Nat.le_of_ble_eq_true rfl) rfl rfl (x_load rfl rfl Try.underlying3 rfl (HP.old hH4 trivial hk4)) ?_
  refine WS.val (v := .bool false) 22 rfl (Nat.le_of_ble_eq_true rfl) rfl rfl (x_neq rfl rfl rfl (by decide)) ?_
  refine WS.val (v := .bool false) 23 rfl (Nat.le_of_ble_eq_true rfl) rfl rfl (by kernel_rfl) ?_
  refine WS.val (v := .bool false) 2 rfl (Nat.le_of_ble_eq_true rfl) rfl rfl (by kernel_rfl) ?_
  refine WS.val (v := .bool false) 3 rfl (Nat.le_of_ble_eq_true rfl) rfl rfl (by kernel_rfl) ?_
  refine WS.nilQ ?_
  refine WQ.then ?_
  refine hK3 _ _ _ ?_
  refine WC.sub (l' := [(0, vP q 0), (2, .bool false), (3, .bool false)]) ⟨rfl, rfl, rfl, trivial⟩ ?_
  refine WC.ret ?_
  refine WQ.ret2 2 3 rfl rfl rfl ?_
  exact ⟨rfl, HP.below hH4⟩
set_option maxRecDepth 20000 in
set_option maxHeartbeats 4000000 in
theorem Busy_01 (q c n : Nat) (C : Nat → Int) (h t k : Nat) (wo tk : Int) (w : World) (hB : OwnB w (QB q c n C h t 0 k wo tk)) (hn : 2 ≤ n ∧ n ≤ 9) (hh : h < n) (ht : t < n) (hk : k ≠ 0) :
    Calls Try.prog 77 #[vP q 0] w fun e w' => e = .returned (.tuple #[.bool false, .bool true]) ∧ Below w.heap.size w w' := by
  have hc := HP.cell (HP.startB hB) 0 (off := 0) rfl rfl
  have hp3 := HP.cell (HP.startB hB) 0 (off := 3) rfl rfl
  have hk4 := HP.cell (HP.startB hB) 0 (off := 4) rfl rfl
  refine calls_of Try.func77 rfl (m := 24) rfl [(0, vP q 0)] (Fr_enter [vP q 0] 24 (Nat.le_of_ble_eq_true rfl)) ?_
  have hH1 : HP Tr w w [] := HP.refl w
  refine WC.seq fun K2 hK2 => ?_
  refine WC.region ?_
  refine WL.pure (v := .bool false) 2 rfl (Nat.le_of_ble_eq_true rfl) rfl rfl (by kernel_rfl) ?_
  refine WL.pure (v := .bool false) 3 rfl (Nat.le_of_ble_eq_true rfl) rfl rfl (by kernel_rfl) ?_
  refine WL.nil ?_
  refine WQ.then ?_
  refine hK2 _ _ _ ?_
  refine WC.seq fun K3 hK3 => ?_
  refine WC.still (by kernel_rfl) (by kernel_rfl) ?_
  have hH4 : HP Tr w _ [] := HP.drew hH1
  refine WS.val (v := vP q 0) 4 rfl (Nat.le_of_ble_eq_true rfl) rfl rfl (by kernel_rfl) ?_
  refine WS.call (v := .bool false) (f := 96) (args := #[vP q 0]) 5 rfl (Nat.le_of_ble_eq_true rfl) rfl rfl (by kernel_rfl) ((qnone_any q c n _ (HP.old hH4 trivial hc) hn).mono fun e w2 h => ⟨h.1, h.2.symm⟩) ?_
  refine WS.val (v := .bool true) 6 rfl (Nat.le_of_ble_eq_true rfl) rfl rfl (by kernel_rfl) ?_
  refine WS.val (v := .bool true) 7 rfl (Nat.le_of_ble_eq_true rfl) rfl rfl (by kernel_rfl) ?_
  refine WS.val (v := vP q 0) 8 rfl (Nat.le_of_ble_eq_true rfl) rfl rfl (by kernel_rfl) ?_
  refine WS.val (v := vP q 0) 9 rfl (Nat.le_of_ble_eq_true rfl) rfl rfl (by kernel_rfl) ?_
  refine WS.val (v := vP q 3) 10 rfl (Nat.le_of_ble_eq_true rfl) rfl rfl (by kernel_rfl) ?_
  refine WS.val (v := vI 0) 11 rfl (Nat.le_of_ble_eq_true rfl) rfl rfl (x_load rfl rfl Try.underlying3 rfl (HP.old hH4 trivial hp3)) ?_
  refine WS.val (v := .bool false) 12 rfl (Nat.le_of_ble_eq_true rfl) rfl rfl (x_neq rfl rfl rfl (by decide)) ?_
  refine WS.val (v := .bool false) 13 rfl (Nat.le_of_ble_eq_true rfl) rfl rfl (by kernel_rfl) ?_
  refine WS.val (v := vP q 0) 14 rfl (Nat.le_of_ble_eq_true rfl) rfl rfl (by kernel_rfl) ?_
  refine WS.call (v := .bool false) (f := 96) (args := #[vP q 0]) 15 rfl (Nat.le_of_ble_eq_true rfl) rfl rfl (by kernel_rfl) ((qnone_any q c n _ (HP.old hH4 trivial hc) hn).mono fun e w2 h => ⟨h.1, h.2.symm⟩) ?_
  refine WS.val (v := .bool true) 16 rfl (Nat.le_of_ble_eq_true rfl) rfl rfl (by kernel_rfl) ?_
  refine WS.val (v := .bool true) 17 rfl (Nat.le_of_ble_eq_true rfl) rfl rfl (by kernel_rfl) ?_
  refine WS.val (v := vP q 0) 18 rfl (Nat.le_of_ble_eq_true rfl) rfl rfl (by kernel_rfl) ?_
  refine WS.val (v := vP q 0) 19 rfl (Nat.le_of_ble_eq_true rfl) rfl rfl (by kernel_rfl) ?_
  refine WS.val (v := vP q 4) 20 rfl (Nat.le_of_ble_eq_true rfl) rfl rfl (by kernel_rfl) ?_
  refine WS.val (v := vI (k : Int)) 21 rfl (Nat.le_of_ble_eq_true rfl) rfl rfl (x_load rfl rfl Try.underlying3 rfl (HP.old hH4 trivial hk4)) ?_
  refine WS.val (v := .bool true) 22 rfl (Nat.le_of_ble_eq_true rfl) rfl rfl (x_neq rfl rfl rfl (dT (by omega))) ?_
  refine WS.val (v := .bool true) 23 rfl (Nat.le_of_ble_eq_true rfl) rfl rfl (by kernel_rfl) ?_
  refine WS.val (v := .bool false) 2 rfl (Nat.le_of_ble_eq_true rfl) rfl rfl (by kernel_rfl) ?_
  refine WS.val (v := .bool true) 3 rfl (Nat.le_of_ble_eq_true rfl) rfl rfl (by kernel_rfl) ?_
  refine WS.nilQ ?_
  refine WQ.then ?_
  refine hK3 _ _ _ ?_
  refine WC.sub (l' := [(0, vP q 0), (2, .bool false), (3, .bool true)]) ⟨rfl, rfl, rfl, trivial⟩ ?_
  refine WC.ret ?_
  refine WQ.ret2 2 3 rfl rfl rfl ?_
  exact ⟨rfl, HP.below hH4⟩
set_option maxRecDepth 20000 in
set_option maxHeartbeats 4000000 in
theorem Busy_10 (q c n : Nat) (C : Nat → Int) (h t p : Nat) (wo tk : Int) (w : World) (hB : OwnB w (QB q c n C h t p 0 wo tk)) (hn : 2 ≤ n ∧ n ≤ 9) (hh : h < n) (ht : t < n) (hp : p ≠ 0) :
    Calls Try.prog 77 #[vP q 0] w fun e w' => e = .returned (.tuple #[.bool true, .bool false]) ∧ Below w.heap.size w w' := by
  have hc := HP.cell (HP.startB hB) 0 (off := 0) rfl rfl
  have hp3 := HP.cell (HP.startB hB) 0 (off := 3) rfl rfl
  have hk4 := HP.cell (HP.startB hB) 0 (off := 4) rfl rfl
  refine calls_of Try.func77 rfl (m := 24) rfl [(0, vP q 0)] (Fr_enter [vP q 0] 24 (Nat.le_of_ble_eq_true rfl)) ?_
  have hH1 : HP Tr w w [] := HP.refl w
  refine WC.seq fun K2 hK2 => ?_
  refine WC.region ?_
  refine WL.pure (v := .bool false) 2 rfl (Nat.le_of_ble_eq_true rfl) rfl rfl (by kernel_rfl) ?_
  refine WL.pure (v := .bool false) 3 rfl (Nat.le_of_ble_eq_true rfl) rfl rfl (by kernel_rfl) ?_
  refine WL.nil ?_
  refine WQ.then ?_
  refine hK2 _ _ _ ?_
  refine WC.seq fun K3 hK3 => ?_
  refine WC.still (by kernel_rfl) (by kernel_rfl) ?_
  have hH4 : HP Tr w _ [] := HP.drew hH1
  refine WS.val (v := vP q 0) 4 rfl (Nat.le_of_ble_eq_true rfl) rfl rfl (by kernel_rfl) ?_
  refine WS.call (v := .bool false) (f := 96) (args := #[vP q 0]) 5 rfl (Nat.le_of_ble_eq_true rfl) rfl rfl (by kernel_rfl) ((qnone_any q c n _ (HP.old hH4 trivial hc) hn).mono fun e w2 h => ⟨h.1, h.2.symm⟩) ?_
  refine WS.val (v := .bool true) 6 rfl (Nat.le_of_ble_eq_true rfl) rfl rfl (by kernel_rfl) ?_
  refine WS.val (v := .bool true) 7 rfl (Nat.le_of_ble_eq_true rfl) rfl rfl (by kernel_rfl) ?_
  refine WS.val (v := vP q 0) 8 rfl (Nat.le_of_ble_eq_true rfl) rfl rfl (by kernel_rfl) ?_
  refine WS.val (v := vP q 0) 9 rfl (Nat.le_of_ble_eq_true rfl) rfl rfl (by kernel_rfl) ?_
  refine WS.val (v := vP q 3) 10 rfl (Nat.le_of_ble_eq_true rfl) rfl rfl (by kernel_rfl) ?_
  refine WS.val (v := vI (p : Int)) 11 rfl (Nat.le_of_ble_eq_true rfl) rfl rfl (x_load rfl rfl Try.underlying3 rfl (HP.old hH4 trivial hp3)) ?_
  refine WS.val (v := .bool true) 12 rfl (Nat.le_of_ble_eq_true rfl) rfl rfl (x_neq rfl rfl rfl (dT (by omega))) ?_
  refine WS.val (v := .bool true) 13 rfl (Nat.le_of_ble_eq_true rfl) rfl rfl (by kernel_rfl) ?_
  refine WS.val (v := vP q 0) 14 rfl (Nat.le_of_ble_eq_true rfl) rfl rfl (by kernel_rfl) ?_
  refine WS.call (v := .bool false) (f := 96) (args := #[vP q 0]) 15 rfl (Nat.le_of_ble_eq_true rfl) rfl rfl (by kernel_rfl) ((qnone_any q c n _ (HP.old hH4 trivial hc) hn).mono fun e w2 h => ⟨h.1, h.2.symm⟩) ?_
  refine WS.val (v := .bool true) 16 rfl (Nat.le_of_ble_eq_true rfl) rfl rfl (by kernel_rfl) ?_
  refine WS.val (v := .bool true) 17 rfl (Nat.le_of_ble_eq_true rfl) rfl rfl (by kernel_rfl) ?_
  refine WS.val (v := vP q 0) 18 rfl (Nat.le_of_ble_eq_true rfl) rfl rfl (by kernel_rfl) ?_
  refine WS.val (v := vP q 0) 19 rfl (Nat.le_of_ble_eq_true rfl) rfl rfl (by kernel_rfl) ?_
  refine WS.val (v := vP q 4) 20 rfl (Nat.le_of_ble_eq_true rfl) rfl rfl (by kernel_rfl) ?_
  refine WS.val (v := vI 0) 21 rfl (Nat.le_of_ble_eq_true rfl) rfl rfl (x_load rfl rfl Try.underlying3 rfl (HP.old hH4 trivial hk4)) ?_
  refine WS.val (v := .bool false) 22 rfl (Nat.le_of_ble_eq_true rfl) rfl rfl (x_neq rfl rfl rfl (by decide)) ?_
  refine WS.val (v := .bool false) 23 rfl (Nat.le_of_ble_eq_true rfl) rfl rfl (by kernel_rfl) ?_
  refine WS.val (v := .bool true) 2 rfl (Nat.le_of_ble_eq_true rfl) rfl rfl (by kernel_rfl) ?_
  refine WS.val (v := .bool false) 3 rfl (Nat.le_of_ble_eq_true rfl) rfl rfl (by kernel_rfl) ?_
  refine WS.nilQ ?_
  refine WQ.then ?_
  refine hK3 _ _ _ ?_
  refine WC.sub (l' := [(0, vP q 0), (2, .bool true), (3, .bool false)]) ⟨rfl, rfl, rfl, trivial⟩ ?_
  refine WC.ret ?_
  refine WQ.ret2 2 3 rfl rfl rfl ?_
  exact ⟨rfl, HP.below hH4⟩
set_option maxRecDepth 20000 in
set_option maxHeartbeats 4000000 in
theorem Busy_11 (q c n : Nat) (C : Nat → Int) (h t p k : Nat) (wo tk : Int) (w : World) (hB : OwnB w (QB q c n C h t p k wo tk)) (hn : 2 ≤ n ∧ n ≤ 9) (hh : h < n) (ht : t < n) (hp : p ≠ 0) (hk : k ≠ 0) :
    Calls Try.prog 77 #[vP q 0] w fun e w' => e = .returned (.tuple #[.bool true, .bool true]) ∧ Below w.heap.size w w' := by
  have hc := HP.cell (HP.startB hB) 0 (off := 0) rfl rfl
  have hp3 := HP.cell (HP.startB hB) 0 (off := 3) rfl rfl
  have hk4 := HP.cell (HP.startB hB) 0 (off := 4) rfl rfl
  refine calls_of Try.func77 rfl (m := 24) rfl [(0, vP q 0)] (Fr_enter [vP q 0] 24 (Nat.le_of_ble_eq_true rfl)) ?_
  have hH1 : HP Tr w w [] := HP.refl w
  refine WC.seq fun K2 hK2 => ?_
  refine WC.region ?_
  refine WL.pure (v := .bool false) 2 rfl (Nat.le_of_ble_eq_true rfl) rfl rfl (by kernel_rfl) ?_
  refine WL.pure (v := .bool false) 3 rfl (Nat.le_of_ble_eq_true rfl) rfl rfl (by kernel_rfl) ?_
  refine WL.nil ?_
  refine WQ.then ?_
  refine hK2 _ _ _ ?_
  refine WC.seq fun K3 hK3 => ?_
  refine WC.still (by kernel_rfl) (by kernel_rfl) ?_
  have hH4 : HP Tr w _ [] := HP.drew hH1
  refine WS.val (v := vP q 0) 4 rfl (Nat.le_of_ble_eq_true rfl) rfl rfl (by kernel_rfl) ?_
  refine WS.call (v := .bool false) (f := 96) (args := #[vP q 0]) 5 rfl (Nat.le_of_ble_eq_true rfl) rfl rfl (by kernel_rfl) ((qnone_any q c n _ (HP.old hH4 trivial hc) hn).mono fun e w2 h => ⟨h.1, h.2.symm⟩) ?_
  refine WS.val (v := .bool true) 6 rfl (Nat.le_of_ble_eq_true rfl) rfl rfl (by kernel_rfl) ?_
  refine WS.val (v := .bool true) 7 rfl (Nat.le_of_ble_eq_true rfl) rfl rfl (by kernel_rfl) ?_
  refine WS.val (v := vP q 0) 8 rfl (Nat.le_of_ble_eq_true rfl) rfl rfl (by kernel_rfl) ?_
  refine WS.val (v := vP q 0) 9 rfl (Nat.le_of_ble_eq_true rfl) rfl rfl (by kernel_rfl) ?_
  refine WS.val (v := vP q 3) 10 rfl (Nat.le_of_ble_eq_true rfl) rfl rfl (by kernel_rfl) ?_
  refine WS.val (v := vI (p : Int)) 11 rfl (Nat.le_of_ble_eq_true rfl) rfl rfl (x_load rfl rfl Try.underlying3 rfl (HP.old hH4 trivial hp3)) ?_
  refine WS.val (v := .bool true) 12 rfl (Nat.le_of_ble_eq_true rfl) rfl rfl (x_neq rfl rfl rfl (dT (by omega))) ?_
  refine WS.val (v := .bool true) 13 rfl (Nat.le_of_ble_eq_true rfl) rfl rfl (by kernel_rfl) ?_
  refine WS.val (v := vP q 0) 14 rfl (Nat.le_of_ble_eq_true rfl) rfl rfl (by kernel_rfl) ?_
  refine WS.call (v := .bool false) (f := 96) (args := #[vP q 0]) 15 rfl (Nat.le_of_ble_eq_true rfl) rfl rfl (by kernel_rfl) ((qnone_any q c n _ (HP.old hH4 trivial hc) hn).mono fun e w2 h => ⟨h.1, h.2.symm⟩) ?_
  refine WS.val (v := .bool true) 16 rfl (Nat.le_of_ble_eq_true rfl) rfl rfl (by kernel_rfl) ?_
  refine WS.val (v := .bool true) 17 rfl (Nat.le_of_ble_eq_true rfl) rfl rfl (by kernel_rfl) ?_
  refine WS.val (v := vP q 0) 18 rfl (Nat.le_of_ble_eq_true rfl) rfl rfl (by kernel_rfl) ?_
  refine WS.val (v := vP q 0) 19 rfl (Nat.le_of_ble_eq_true rfl) rfl rfl (by kernel_rfl) ?_
  refine WS.val (v := vP q 4) 20 rfl (Nat.le_of_ble_eq_true rfl) rfl rfl (by kernel_rfl) ?_
  refine WS.val (v := vI (k : Int)) 21 rfl (Nat.le_of_ble_eq_true rfl) rfl rfl (x_load rfl rfl Try.underlying3 rfl (HP.old hH4 trivial hk4)) ?_
  refine WS.val (v := .bool true) 22 rfl (Nat.le_of_ble_eq_true rfl) rfl rfl (x_neq rfl rfl rfl (dT (by omega))) ?_
  refine WS.val (v := .bool true) 23 rfl (Nat.le_of_ble_eq_true rfl) rfl rfl (by kernel_rfl) ?_
  refine WS.val (v := .bool true) 2 rfl (Nat.le_of_ble_eq_true rfl) rfl rfl (by kernel_rfl) ?_
  refine WS.val (v := .bool true) 3 rfl (Nat.le_of_ble_eq_true rfl) rfl rfl (by kernel_rfl) ?_
  refine WS.nilQ ?_
  refine WQ.then ?_
  refine hK3 _ _ _ ?_
  refine WC.sub (l' := [(0, vP q 0), (2, .bool true), (3, .bool true)]) ⟨rfl, rfl, rfl, trivial⟩ ?_
  refine WC.ret ?_
  refine WQ.ret2 2 3 rfl rfl rfl ?_
  exact ⟨rfl, HP.below hH4⟩
end Qu
end Go.Proofs.Ytgdfbpphfanocaa
