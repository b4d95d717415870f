/- Small functions of the bus; the wheel: period, before, end. -/
import Derived.Test.YteckbfebemofmaaBB
import Derived.Laws.Shifts
set_option linter.unusedVariables false
set_option linter.unusedSimpArgs false
namespace Go.Proofs.Yteckbfebemofmaa
open Go.RowKit Fw
namespace Bs
theorem x_convI {P : Program} {ρ : Operand → Value} {o : Oper} {w : World} {s t : TypeId} {x : Operand} {k k' : IntKind} {X Z : Int} (ho : o.op = .convert s t x) (hx : ρ x = .int k X) (hs : (P.underlying s).isSome = true) (ht : P.underlying t = some (.int (P.intKind t))) (hk : P.intKind t = k') (hz : k'.wrap X = Z) :
    (execOp ρ o).run P w = .ok (.value (.int k' Z)) w := by
  subst hk
  unfold execOp; rw [ho]; simp [hx, run_convert_int w s t k X hs ht, hz]
theorem x_shr1 {P : Program} {ρ : Operand → Value} {o : Oper} {w : World} {t u : TypeId} {x y : Operand} {k yk : IntKind} {X : Int} (ho : o.op = .binOp .shr t x y u) (hx : ρ x = .int k X) (hy : ρ y = .int yk 1) (hk : 1 ≤ k.bits) :
    (execOp ρ o).run P w = .ok (.value (.int k (X / 2))) w := by
  exact x_bin ho hx hy g_int (by simp [binOp, shift_shr_any k yk X 1 (by omega), show min 1 k.bits = 1 by omega])
def cmpI (a b : Int) : Int := if a < b then -1 else if b < a then 1 else 0
theorem cmp_neg {a b : Int} : cmpI a b < 0 ↔ a < b := by unfold cmpI; split <;> (try split) <;> omega
def okM (m : Int) : Bool := decide (0 ≤ m) && decide (m < 4)
def okS1 (x y : Int) : Bool := okM x && (decide (1 ≤ y) && decide (y ≤ 50))
def allS (o sp : Nat → Int) (N : Nat) : Bool := (List.range N).all fun i => okS1 (o i) (sp i)
def okL (o sp : Nat → Int) (N : Nat) : Bool := decide (1 ≤ N) && (decide (N ≤ 8) && allS o sp N)
theorem okM_iff {m : Int} : okM m = true ↔ 0 ≤ m ∧ m < 4 := by simp [okM]
theorem okS1_iff {x y : Int} : okS1 x y = true ↔ (0 ≤ x ∧ x < 4) ∧ 1 ≤ y ∧ y ≤ 50 := by simp [okS1, okM]
theorem allS_iff {o sp : Nat → Int} {N : Nat} : allS o sp N = true ↔ ∀ i, i < N → okS1 (o i) (sp i) = true := by simp [allS]
theorem allS_no {o sp : Nat → Int} {N i : Nat} (hi : i < N) (h : okS1 (o i) (sp i) = false) : allS o sp N = false := by
  cases q : allS o sp N with
  | false => rfl
  | true => rw [allS_iff.1 q i hi] at h; cases h
theorem okL_iff {o sp : Nat → Int} {N : Nat} : okL o sp N = true ↔ 1 ≤ N ∧ N ≤ 8 ∧ ∀ i, i < N → okS1 (o i) (sp i) = true := by simp [okL, allS_iff]
/-- the wheel: a row of the owners (0), and one of the ticks of each master -/
structure Wh where
  p : Nat → Option Addr
  n : Nat → Nat
  c : Nat → Nat
abbrev Wh.v (W : Wh) (i : Nat) : Value := .slice (W.p i) (W.n i) (W.c i)
theorem wh_get (W : Wh) {m : Nat} (hm : m < 4) : (#[W.v 0, W.v 1, W.v 2, W.v 3, W.v 4] : Array Value)[1 + m]? = some (W.v (m + 1)) := by
  rcases (show m = 0 ∨ m = 1 ∨ m = 2 ∨ m = 3 by omega) with rfl | rfl | rfl | rfl <;> rfl
structure WhOk (w : World) (W : Wh) (l : List Int) : Prop where
  own : W.n 0 = l.length
  len : ∀ m : Nat, m < 4 → W.n (m + 1) = (posI l m).length
  row : ∀ m : Nat, m < 4 → InI w (W.p (m + 1)) (posI l m)
  l1 : 1 ≤ l.length
  l4 : l.length ≤ 400
theorem WhOk.below {w w' : World} {W : Wh} {l : List Int} (h : WhOk w W l) (hb : Below w.heap.size w w') : WhOk w' W l := ⟨h.own, h.len, fun m hm => (h.row m hm).below hb, h.l1, h.l4⟩
theorem le_of_sorted {xs : List Int} (h : xs.Pairwise fun a b => a < b) {i j : Nat} (hij : i ≤ j) (hj : j < xs.length) : xs.getD i 0 ≤ xs.getD j 0 := by
  have g : ∀ i, (h : i < xs.length) → xs.getD i 0 = xs[i] := fun i h => by simp [List.getD_eq_getElem?_getD, h]
  rw [g i (by omega), g j hj]
  by_cases e : i = j
  · subst e; exact Int.le_refl _
  · have := List.pairwise_iff_getElem.1 h i j (by omega) hj (by omega)
    omega
theorem sz3 : (Try.prog.info? 3).map (·.size) = some 1 := by kernel_rfl
theorem sz23 : (Try.prog.info? 23).map (·.size) = some 1 := by kernel_rfl
theorem sz55 : (Try.prog.info? 55).map (·.size) = some 5 := by kernel_rfl
theorem sz67 : (Try.prog.info? 67).map (·.size) = some 2 := by kernel_rfl
set_option maxRecDepth 20000 in
set_option maxHeartbeats 4000000 in
theorem isMaster_any (n : Int) (w : World) :
    Calls Try.prog 37 #[vI n] w fun e w' => e = .returned (.bool (okM n)) ∧ w = w' := by
  refine calls_of Try.func37 rfl (m := 9) rfl [(0, vI n)] (Fr_enter [vI n] 9 (Nat.le_of_ble_eq_true rfl)) ?_
  have hH1 : HP Tr w w [] := HP.refl w
  refine WC.seq fun K2 hK2 => ?_
  refine WC.region ?_
  refine WL.pure (v := .bool false) 2 rfl (Nat.le_of_ble_eq_true rfl) rfl rfl (by kernel_rfl) ?_
  refine WL.nil ?_
  refine WQ.then ?_
  refine hK2 _ _ _ ?_
  refine WC.seq fun K3 hK3 => ?_
  refine WC.region ?_
  refine WL.pure (v := vI n) 3 rfl (Nat.le_of_ble_eq_true rfl) rfl rfl (by kernel_rfl) ?_
  by_cases h0 : (0 : Int) ≤ n
  ·
    refine WL.pure (v := .bool true) 4 rfl (Nat.le_of_ble_eq_true rfl) rfl rfl (x_geq rfl rfl rfl (dT (h0))) ?_
    refine WL.pure (v := .bool true) 5 rfl (Nat.le_of_ble_eq_true rfl) rfl rfl (by kernel_rfl) ?_
    refine WL.pure (v := vI n) 6 rfl (Nat.le_of_ble_eq_true rfl) rfl rfl (by kernel_rfl) ?_
    by_cases h1 : n < 4
    ·
      refine WL.pure (v := .bool true) 7 rfl (Nat.le_of_ble_eq_true rfl) rfl rfl (x_lss rfl rfl rfl (dT (h1))) ?_
      refine WL.pure (v := .bool true) 8 rfl (Nat.le_of_ble_eq_true rfl) rfl rfl (by kernel_rfl) ?_
      refine WL.pure (v := .bool true) 2 rfl (Nat.le_of_ble_eq_true rfl) rfl rfl (by kernel_rfl) ?_
      refine WL.nil ?_
      refine WQ.then ?_
      refine hK3 _ _ _ ?_
      refine WC.sub (l' := [(0, vI n), (2, .bool true)]) ⟨rfl, rfl, trivial⟩ ?_
      refine WC.ret ?_
      refine WQ.ret1 2 rfl rfl ?_
      exact ⟨by rw [show okM n = true by unfold okM; simp; omega], rfl⟩
    ·
      refine WL.pure (v := .bool false) 7 rfl (Nat.le_of_ble_eq_true rfl) rfl rfl (x_lss rfl rfl rfl (dF (h1))) ?_
      refine WL.pure (v := .bool false) 8 rfl (Nat.le_of_ble_eq_true rfl) rfl rfl (by kernel_rfl) ?_
      refine WL.pure (v := .bool false) 2 rfl (Nat.le_of_ble_eq_true rfl) rfl rfl (by kernel_rfl) ?_
      refine WL.nil ?_
      refine WQ.then ?_
      refine hK3 _ _ _ ?_
      refine WC.sub (l' := [(0, vI n), (2, .bool false)]) ⟨rfl, rfl, trivial⟩ ?_
      refine WC.ret ?_
      refine WQ.ret1 2 rfl rfl ?_
      exact ⟨by rw [show okM n = false by unfold okM; simp; omega], rfl⟩
  ·
    refine WL.pure (v := .bool false) 4 rfl (Nat.le_of_ble_eq_true rfl) rfl rfl (x_geq rfl rfl rfl (dF (h0))) ?_
    refine WL.pure (v := .bool false) 5 rfl (Nat.le_of_ble_eq_true rfl) rfl rfl (by kernel_rfl) ?_
    refine WL.pass 6 rfl (Nat.le_of_ble_eq_true rfl) rfl ?_
    refine WL.pass 7 rfl (Nat.le_of_ble_eq_true rfl) rfl ?_
    refine WL.pure (v := .bool false) 8 rfl (Nat.le_of_ble_eq_true rfl) rfl rfl (by kernel_rfl) ?_
    refine WL.pure (v := .bool false) 2 rfl (Nat.le_of_ble_eq_true rfl) rfl rfl (by kernel_rfl) ?_
    refine WL.nil ?_
    refine WQ.then ?_
    refine hK3 _ _ _ ?_
    refine WC.sub (l' := [(0, vI n), (2, .bool false)]) ⟨rfl, rfl, trivial⟩ ?_
    refine WC.ret ?_
    refine WQ.ret1 2 rfl rfl ?_
    exact ⟨by rw [show okM n = false by unfold okM; simp; omega], rfl⟩
set_option maxRecDepth 20000 in
set_option maxHeartbeats 4000000 in
theorem bwithin_any (n m : Int) (w : World) :
    Calls Try.prog 38 #[vI n, vI m] w fun e w' => e = .returned (.bool (decide (0 ≤ n) && decide (n ≤ m))) ∧ w = w' := by
  refine calls_of Try.func38 rfl (m := 12) rfl [(0, vI n), (1, vI m)] (Fr_enter [vI n, vI m] 12 (Nat.le_of_ble_eq_true rfl)) ?_
  have hH1 : HP Tr w w [] := HP.refl w
  refine WC.seq fun K2 hK2 => ?_
  refine WC.region ?_
  refine WL.pure (v := .bool false) 4 rfl (Nat.le_of_ble_eq_true rfl) rfl rfl (by kernel_rfl) ?_
  refine WL.nil ?_
  refine WQ.then ?_
  refine hK2 _ _ _ ?_
  refine WC.seq fun K3 hK3 => ?_
  refine WC.region ?_
  refine WL.pure (v := vI n) 5 rfl (Nat.le_of_ble_eq_true rfl) rfl rfl (by kernel_rfl) ?_
  by_cases h0 : (0 : Int) ≤ n
  ·
    refine WL.pure (v := .bool true) 6 rfl (Nat.le_of_ble_eq_true rfl) rfl rfl (x_geq rfl rfl rfl (dT (h0))) ?_
    refine WL.pure (v := .bool true) 7 rfl (Nat.le_of_ble_eq_true rfl) rfl rfl (by kernel_rfl) ?_
    refine WL.pure (v := vI n) 8 rfl (Nat.le_of_ble_eq_true rfl) rfl rfl (by kernel_rfl) ?_
    refine WL.pure (v := vI m) 9 rfl (Nat.le_of_ble_eq_true rfl) rfl rfl (by kernel_rfl) ?_
    by_cases h1 : n ≤ m
    ·
      refine WL.pure (v := .bool true) 10 rfl (Nat.le_of_ble_eq_true rfl) rfl rfl (x_leq rfl rfl rfl (dT (h1))) ?_
      refine WL.pure (v := .bool true) 11 rfl (Nat.le_of_ble_eq_true rfl) rfl rfl (by kernel_rfl) ?_
      refine WL.pure (v := .bool true) 4 rfl (Nat.le_of_ble_eq_true rfl) rfl rfl (by kernel_rfl) ?_
      refine WL.nil ?_
      refine WQ.then ?_
      refine hK3 _ _ _ ?_
      refine WC.sub (l' := [(0, vI n), (1, vI m), (4, .bool true)]) ⟨rfl, rfl, rfl, trivial⟩ ?_
      refine WC.ret ?_
      refine WQ.ret1 4 rfl rfl ?_
      exact ⟨by rw [show (decide (0 ≤ n) && decide (n ≤ m)) = true by simp; omega], rfl⟩
    ·
      refine WL.pure (v := .bool false) 10 rfl (Nat.le_of_ble_eq_true rfl) rfl rfl (x_leq rfl rfl rfl (dF (h1))) ?_
      refine WL.pure (v := .bool false) 11 rfl (Nat.le_of_ble_eq_true rfl) rfl rfl (by kernel_rfl) ?_
      refine WL.pure (v := .bool false) 4 rfl (Nat.le_of_ble_eq_true rfl) rfl rfl (by kernel_rfl) ?_
      refine WL.nil ?_
      refine WQ.then ?_
      refine hK3 _ _ _ ?_
      refine WC.sub (l' := [(0, vI n), (1, vI m), (4, .bool false)]) ⟨rfl, rfl, rfl, trivial⟩ ?_
      refine WC.ret ?_
      refine WQ.ret1 4 rfl rfl ?_
      exact ⟨by rw [show (decide (0 ≤ n) && decide (n ≤ m)) = false by simp; omega], rfl⟩
  ·
    refine WL.pure (v := .bool false) 6 rfl (Nat.le_of_ble_eq_true rfl) rfl rfl (x_geq rfl rfl rfl (dF (h0))) ?_
    refine WL.pure (v := .bool false) 7 rfl (Nat.le_of_ble_eq_true rfl) rfl rfl (by kernel_rfl) ?_
    refine WL.pass 8 rfl (Nat.le_of_ble_eq_true rfl) rfl ?_
    refine WL.pass 9 rfl (Nat.le_of_ble_eq_true rfl) rfl ?_
    refine WL.pass 10 rfl (Nat.le_of_ble_eq_true rfl) rfl ?_
    refine WL.pure (v := .bool false) 11 rfl (Nat.le_of_ble_eq_true rfl) rfl rfl (by kernel_rfl) ?_
    refine WL.pure (v := .bool false) 4 rfl (Nat.le_of_ble_eq_true rfl) rfl rfl (by kernel_rfl) ?_
    refine WL.nil ?_
    refine WQ.then ?_
    refine hK3 _ _ _ ?_
    refine WC.sub (l' := [(0, vI n), (1, vI m), (4, .bool false)]) ⟨rfl, rfl, rfl, trivial⟩ ?_
    refine WC.ret ?_
    refine WQ.ret1 4 rfl rfl ?_
    exact ⟨by rw [show (decide (0 ≤ n) && decide (n ≤ m)) = false by simp; omega], rfl⟩
set_option maxRecDepth 20000 in
set_option maxHeartbeats 4000000 in
theorem awithin_any (n a m : Int) (w : World) :
    Calls Try.prog 22 #[vI n, vI a, vI m] w fun e w' => e = .returned (.bool (decide (a ≤ n) && decide (n ≤ m))) ∧ w = w' := by
  refine calls_of Try.func22 rfl (m := 15) rfl [(0, vI n), (1, vI a), (2, vI m)] (Fr_enter [vI n, vI a, vI m] 15 (Nat.le_of_ble_eq_true rfl)) ?_
  have hH1 : HP Tr w w [] := HP.refl w
  refine WC.seq fun K2 hK2 => ?_
  refine WC.region ?_
  refine WL.pure (v := .bool false) 6 rfl (Nat.le_of_ble_eq_true rfl) rfl rfl (by kernel_rfl) ?_
  refine WL.nil ?_
  refine WQ.then ?_
  refine hK2 _ _ _ ?_
  refine WC.seq fun K3 hK3 => ?_
  refine WC.region ?_
  refine WL.pure (v := vI n) 7 rfl (Nat.le_of_ble_eq_true rfl) rfl rfl (by kernel_rfl) ?_
  refine WL.pure (v := vI a) 8 rfl (Nat.le_of_ble_eq_true rfl) rfl rfl (by kernel_rfl) ?_
  by_cases h0 : a ≤ n
  ·
    refine WL.pure (v := .bool true) 9 rfl (Nat.le_of_ble_eq_true rfl) rfl rfl (x_geq rfl rfl rfl (dT (h0))) ?_
    refine WL.pure (v := .bool true) 10 rfl (Nat.le_of_ble_eq_true rfl) rfl rfl (by kernel_rfl) ?_
    refine WL.pure (v := vI n) 11 rfl (Nat.le_of_ble_eq_true rfl) rfl rfl (by kernel_rfl) ?_
    refine WL.pure (v := vI m) 12 rfl (Nat.le_of_ble_eq_true rfl) rfl rfl (by kernel_rfl) ?_
    by_cases h1 : n ≤ m
    ·
      refine WL.pure (v := .bool true) 13 rfl (Nat.le_of_ble_eq_true rfl) rfl rfl (x_leq rfl rfl rfl (dT (h1))) ?_
      refine WL.pure (v := .bool true) 14 rfl (Nat.le_of_ble_eq_true rfl) rfl rfl (by kernel_rfl) ?_
      refine WL.pure (v := .bool true) 6 rfl (Nat.le_of_ble_eq_true rfl) rfl rfl (by kernel_rfl) ?_
      refine WL.nil ?_
      refine WQ.then ?_
      refine hK3 _ _ _ ?_
      refine WC.sub (l' := [(0, vI n), (1, vI a), (2, vI m), (6, .bool true)]) ⟨rfl, rfl, rfl, rfl, trivial⟩ ?_
      refine WC.ret ?_
      refine WQ.ret1 6 rfl rfl ?_
      exact ⟨by rw [show (decide (a ≤ n) && decide (n ≤ m)) = true by simp; omega], rfl⟩
    ·
      refine WL.pure (v := .bool false) 13 rfl (Nat.le_of_ble_eq_true rfl) rfl rfl (x_leq rfl rfl rfl (dF (h1))) ?_
      refine WL.pure (v := .bool false) 14 rfl (Nat.le_of_ble_eq_true rfl) rfl rfl (by kernel_rfl) ?_
      refine WL.pure (v := .bool false) 6 rfl (Nat.le_of_ble_eq_true rfl) rfl rfl (by kernel_rfl) ?_
      refine WL.nil ?_
      refine WQ.then ?_
      refine hK3 _ _ _ ?_
      refine WC.sub (l' := [(0, vI n), (1, vI a), (2, vI m), (6, .bool false)]) ⟨rfl, rfl, rfl, rfl, trivial⟩ ?_
      refine WC.ret ?_
      refine WQ.ret1 6 rfl rfl ?_
      exact ⟨by rw [show (decide (a ≤ n) && decide (n ≤ m)) = false by simp; omega], rfl⟩
  ·
    refine WL.pure (v := .bool false) 9 rfl (Nat.le_of_ble_eq_true rfl) rfl rfl (x_geq rfl rfl rfl (dF (h0))) ?_
    refine WL.pure (v := .bool false) 10 rfl (Nat.le_of_ble_eq_true rfl) rfl rfl (by kernel_rfl) ?_
    refine WL.pass 11 rfl (Nat.le_of_ble_eq_true rfl) rfl ?_
    refine WL.pass 12 rfl (Nat.le_of_ble_eq_true rfl) rfl ?_
    refine WL.pass 13 rfl (Nat.le_of_ble_eq_true rfl) rfl ?_
    refine WL.pure (v := .bool false) 14 rfl (Nat.le_of_ble_eq_true rfl) rfl rfl (by kernel_rfl) ?_
    refine WL.pure (v := .bool false) 6 rfl (Nat.le_of_ble_eq_true rfl) rfl rfl (by kernel_rfl) ?_
    refine WL.nil ?_
    refine WQ.then ?_
    refine hK3 _ _ _ ?_
    refine WC.sub (l' := [(0, vI n), (1, vI a), (2, vI m), (6, .bool false)]) ⟨rfl, rfl, rfl, rfl, trivial⟩ ?_
    refine WC.ret ?_
    refine WQ.ret1 6 rfl rfl ?_
    exact ⟨by rw [show (decide (a ≤ n) && decide (n ≤ m)) = false by simp; omega], rfl⟩
set_option maxRecDepth 20000 in
set_option maxHeartbeats 4000000 in
theorem isNaN_any (n : Int) (w : World) :
    Calls Try.prog 45 #[vI n] w fun e w' => e = .returned (.bool false) ∧ w = w' := by
  refine calls_of Try.func45 rfl (m := 6) rfl [(0, vI n)] (Fr_enter [vI n] 6 (Nat.le_of_ble_eq_true rfl)) ?_
  have hH1 : HP Tr w w [] := HP.refl w
  refine WC.seq fun K2 hK2 => ?_
  refine WC.region ?_
  refine WL.pure (v := .bool false) 2 rfl (Nat.le_of_ble_eq_true rfl) rfl rfl (by kernel_rfl) ?_
  refine WL.nil ?_
  refine WQ.then ?_
  refine hK2 _ _ _ ?_
  refine WC.seq fun K3 hK3 => ?_
  refine WC.region ?_
  refine WL.pure (v := vI n) 3 rfl (Nat.le_of_ble_eq_true rfl) rfl rfl (by kernel_rfl) ?_
  refine WL.pure (v := vI n) 4 rfl (Nat.le_of_ble_eq_true rfl) rfl rfl (by kernel_rfl) ?_
  refine WL.pure (v := .bool false) 5 rfl (Nat.le_of_ble_eq_true rfl) rfl rfl (x_neq rfl rfl rfl (dF (fun h => h rfl))) ?_
  refine WL.pure (v := .bool false) 2 rfl (Nat.le_of_ble_eq_true rfl) rfl rfl (by kernel_rfl) ?_
  refine WL.nil ?_
  refine WQ.then ?_
  refine hK3 _ _ _ ?_
  refine WC.ret ?_
  refine WQ.ret1 2 rfl rfl ?_
  exact ⟨rfl, rfl⟩
set_option maxRecDepth 20000 in
set_option maxHeartbeats 4000000 in
theorem isNaN2_any (n : Int) (w : World) :
    Calls Try.prog 51 #[vI n] w fun e w' => e = .returned (.bool false) ∧ w = w' := by
  refine calls_of Try.func51 rfl (m := 6) rfl [(0, vI n)] (Fr_enter [vI n] 6 (Nat.le_of_ble_eq_true rfl)) ?_
  have hH1 : HP Tr w w [] := HP.refl w
  refine WC.seq fun K2 hK2 => ?_
  refine WC.region ?_
  refine WL.pure (v := .bool false) 2 rfl (Nat.le_of_ble_eq_true rfl) rfl rfl (by kernel_rfl) ?_
  refine WL.nil ?_
  refine WQ.then ?_
  refine hK2 _ _ _ ?_
  refine WC.seq fun K3 hK3 => ?_
  refine WC.region ?_
  refine WL.pure (v := vI n) 3 rfl (Nat.le_of_ble_eq_true rfl) rfl rfl (by kernel_rfl) ?_
  refine WL.pure (v := vI n) 4 rfl (Nat.le_of_ble_eq_true rfl) rfl rfl (by kernel_rfl) ?_
  refine WL.pure (v := .bool false) 5 rfl (Nat.le_of_ble_eq_true rfl) rfl rfl (x_neq rfl rfl rfl (dF (fun h => h rfl))) ?_
  refine WL.pure (v := .bool false) 2 rfl (Nat.le_of_ble_eq_true rfl) rfl rfl (by kernel_rfl) ?_
  refine WL.nil ?_
  refine WQ.then ?_
  refine hK3 _ _ _ ?_
  refine WC.ret ?_
  refine WQ.ret1 2 rfl rfl ?_
  exact ⟨rfl, rfl⟩
set_option maxRecDepth 20000 in
set_option maxHeartbeats 4000000 in
theorem less_any (x y : Int) (w : World) :
    Calls Try.prog 50 #[vI x, vI y] w fun e w' => e = .returned (.bool (decide (x < y))) ∧ w = w' := by
  refine calls_of Try.func50 rfl (m := 17) rfl [(0, vI x), (1, vI y)] (Fr_enter [vI x, vI y] 17 (Nat.le_of_ble_eq_true rfl)) ?_
  have hH1 : HP Tr w w [] := HP.refl w
  refine WC.seq fun K2 hK2 => ?_
  refine WC.region ?_
  refine WL.pure (v := .bool false) 4 rfl (Nat.le_of_ble_eq_true rfl) rfl rfl (by kernel_rfl) ?_
  refine WL.nil ?_
  refine WQ.then ?_
  refine hK2 _ _ _ ?_
  refine WC.seq fun K3 hK3 => ?_
  refine WC.region ?_
  refine WL.pure (v := vI x) 5 rfl (Nat.le_of_ble_eq_true rfl) rfl rfl (by kernel_rfl) ?_
  refine WL.call (f := 45) (args := #[vI x]) 6 rfl (Nat.le_of_ble_eq_true rfl) rfl rfl (by kernel_rfl) ?_
  refine (isNaN_any _ _).mono ?_
  rintro e w4 ⟨rfl, rfl⟩
  refine ⟨_, rfl, ?_⟩
  refine WL.pure (v := .bool false) 7 rfl (Nat.le_of_ble_eq_true rfl) rfl rfl (by kernel_rfl) ?_
  refine WL.pass 8 rfl (Nat.le_of_ble_eq_true rfl) rfl ?_
  refine WL.pass 9 rfl (Nat.le_of_ble_eq_true rfl) rfl ?_
  refine WL.pass 10 rfl (Nat.le_of_ble_eq_true rfl) rfl ?_
  refine WL.pure (v := .bool false) 11 rfl (Nat.le_of_ble_eq_true rfl) rfl rfl (by kernel_rfl) ?_
  refine WL.pure (v := .bool false) 12 rfl (Nat.le_of_ble_eq_true rfl) rfl rfl (by kernel_rfl) ?_
  refine WL.pure (v := vI x) 13 rfl (Nat.le_of_ble_eq_true rfl) rfl rfl (by kernel_rfl) ?_
  refine WL.pure (v := vI y) 14 rfl (Nat.le_of_ble_eq_true rfl) rfl rfl (by kernel_rfl) ?_
  by_cases h : x < y
  ·
    refine WL.pure (v := .bool true) 15 rfl (Nat.le_of_ble_eq_true rfl) rfl rfl (x_lss rfl rfl rfl (dT (h))) ?_
    refine WL.pure (v := .bool true) 16 rfl (Nat.le_of_ble_eq_true rfl) rfl rfl (by kernel_rfl) ?_
    refine WL.pure (v := .bool true) 4 rfl (Nat.le_of_ble_eq_true rfl) rfl rfl (by kernel_rfl) ?_
    refine WL.nil ?_
    refine WQ.then ?_
    refine hK3 _ _ _ ?_
    refine WC.sub (l' := [(0, vI x), (1, vI y), (4, .bool true)]) ⟨rfl, rfl, rfl, trivial⟩ ?_
    refine WC.ret ?_
    refine WQ.ret1 4 rfl rfl ?_
    exact ⟨by rw [show decide (x < y) = true from dT h], rfl⟩
  ·
    refine WL.pure (v := .bool false) 15 rfl (Nat.le_of_ble_eq_true rfl) rfl rfl (x_lss rfl rfl rfl (dF (h))) ?_
    refine WL.pure (v := .bool false) 16 rfl (Nat.le_of_ble_eq_true rfl) rfl rfl (by kernel_rfl) ?_
    refine WL.pure (v := .bool false) 4 rfl (Nat.le_of_ble_eq_true rfl) rfl rfl (by kernel_rfl) ?_
    refine WL.nil ?_
    refine WQ.then ?_
    refine hK3 _ _ _ ?_
    refine WC.sub (l' := [(0, vI x), (1, vI y), (4, .bool false)]) ⟨rfl, rfl, rfl, trivial⟩ ?_
    refine WC.ret ?_
    refine WQ.ret1 4 rfl rfl ?_
    exact ⟨by rw [show decide (x < y) = false from dF h], rfl⟩
set_option maxRecDepth 20000 in
set_option maxHeartbeats 4000000 in
theorem more_any (x y : Int) (w : World) :
    Calls Try.prog 9 #[vI x, vI y] w fun e w' => e = .returned (.bool (decide (y < x))) ∧ w = w' := by
  refine calls_of Try.func9 rfl (m := 8) rfl [(0, vI x), (1, vI y)] (Fr_enter [vI x, vI y] 8 (Nat.le_of_ble_eq_true rfl)) ?_
  have hH1 : HP Tr w w [] := HP.refl w
  refine WC.seq fun K2 hK2 => ?_
  refine WC.region ?_
  refine WL.pure (v := .bool false) 4 rfl (Nat.le_of_ble_eq_true rfl) rfl rfl (by kernel_rfl) ?_
  refine WL.nil ?_
  refine WQ.then ?_
  refine hK2 _ _ _ ?_
  refine WC.seq fun K3 hK3 => ?_
  refine WC.region ?_
  refine WL.pure (v := vI x) 5 rfl (Nat.le_of_ble_eq_true rfl) rfl rfl (by kernel_rfl) ?_
  refine WL.pure (v := vI y) 6 rfl (Nat.le_of_ble_eq_true rfl) rfl rfl (by kernel_rfl) ?_
  by_cases h : y < x
  ·
    refine WL.pure (v := .bool true) 7 rfl (Nat.le_of_ble_eq_true rfl) rfl rfl (x_gtr rfl rfl rfl (dT (h))) ?_
    refine WL.pure (v := .bool true) 4 rfl (Nat.le_of_ble_eq_true rfl) rfl rfl (by kernel_rfl) ?_
    refine WL.nil ?_
    refine WQ.then ?_
    refine hK3 _ _ _ ?_
    refine WC.ret ?_
    refine WQ.ret1 4 rfl rfl ?_
    exact ⟨by rw [show decide (y < x) = true from dT h], rfl⟩
  ·
    refine WL.pure (v := .bool false) 7 rfl (Nat.le_of_ble_eq_true rfl) rfl rfl (x_gtr rfl rfl rfl (dF (h))) ?_
    refine WL.pure (v := .bool false) 4 rfl (Nat.le_of_ble_eq_true rfl) rfl rfl (by kernel_rfl) ?_
    refine WL.nil ?_
    refine WQ.then ?_
    refine hK3 _ _ _ ?_
    refine WC.ret ?_
    refine WQ.ret1 4 rfl rfl ?_
    exact ⟨by rw [show decide (y < x) = false from dF h], rfl⟩
set_option maxRecDepth 20000 in
set_option maxHeartbeats 4000000 in
theorem Compare_any (a b : Int) (w : World) :
    Calls Try.prog 34 #[vI a, vI b] w fun e w' => e = .returned (.int .i64 (cmpI a b)) ∧ w = w' := by
  refine calls_of Try.func34 rfl (m := 20) rfl [(0, vI a), (1, vI b)] (Fr_enter [vI a, vI b] 20 (Nat.le_of_ble_eq_true rfl)) ?_
  have hH1 : HP Tr w w [] := HP.refl w
  refine WC.seq fun K2 hK2 => ?_
  refine WC.region ?_
  refine WL.pure (v := vI 0) 4 rfl (Nat.le_of_ble_eq_true rfl) rfl rfl (by kernel_rfl) ?_
  refine WL.nil ?_
  refine WQ.then ?_
  refine hK2 _ _ _ ?_
  refine WC.seq fun K3 hK3 => ?_
  refine WC.region ?_
  refine WL.pure (v := vI a) 7 rfl (Nat.le_of_ble_eq_true rfl) rfl rfl (by kernel_rfl) ?_
  refine WL.call (f := 45) (args := #[vI a]) 8 rfl (Nat.le_of_ble_eq_true rfl) rfl rfl (by kernel_rfl) ?_
  refine (isNaN_any _ _).mono ?_
  rintro e w4 ⟨rfl, rfl⟩
  refine ⟨_, rfl, ?_⟩
  refine WL.pure (v := .bool false) 5 rfl (Nat.le_of_ble_eq_true rfl) rfl rfl (by kernel_rfl) ?_
  refine WL.nil ?_
  refine WQ.then ?_
  refine hK3 _ _ _ ?_
  refine WC.seq fun K5 hK5 => ?_
  refine WC.region ?_
  refine WL.pure (v := vI b) 9 rfl (Nat.le_of_ble_eq_true rfl) rfl rfl (by kernel_rfl) ?_
  refine WL.call (f := 45) (args := #[vI b]) 10 rfl (Nat.le_of_ble_eq_true rfl) rfl rfl (by kernel_rfl) ?_
  refine (isNaN_any _ _).mono ?_
  rintro e w6 ⟨rfl, rfl⟩
  refine ⟨_, rfl, ?_⟩
  refine WL.pure (v := .bool false) 6 rfl (Nat.le_of_ble_eq_true rfl) rfl rfl (by kernel_rfl) ?_
  refine WL.nil ?_
  refine WQ.then ?_
  refine hK5 _ _ _ ?_
  refine WC.seq fun K7 hK7 => ?_
  refine WC.seq fun K8 hK8 => ?_
  refine WC.region ?_
  refine WL.pure (v := .bool false) 11 rfl (Nat.le_of_ble_eq_true rfl) rfl rfl (by kernel_rfl) ?_
  refine WL.nil ?_
  refine WQ.then ?_
  refine hK8 _ _ _ ?_
  refine WC.no rfl ?_
  refine WC.skip ?_
  refine WQ.then ?_
  refine hK7 _ _ _ ?_
  refine WC.seq fun K9 hK9 => ?_
  refine WC.seq fun K10 hK10 => ?_
  refine WC.region ?_
  refine WL.pure (v := .bool false) 13 rfl (Nat.le_of_ble_eq_true rfl) rfl rfl (by kernel_rfl) ?_
  refine WL.nil ?_
  refine WQ.then ?_
  refine hK10 _ _ _ ?_
  refine WC.no rfl ?_
  refine WC.skip ?_
  refine WQ.then ?_
  refine hK9 _ _ _ ?_
  refine WC.seq fun K11 hK11 => ?_
  refine WC.seq fun K12 hK12 => ?_
  refine WC.region ?_
  refine WL.pure (v := vI a) 14 rfl (Nat.le_of_ble_eq_true rfl) rfl rfl (by kernel_rfl) ?_
  refine WL.pure (v := vI b) 15 rfl (Nat.le_of_ble_eq_true rfl) rfl rfl (by kernel_rfl) ?_
  by_cases h1 : a < b
  ·
    refine WL.pure (v := .bool true) 16 rfl (Nat.le_of_ble_eq_true rfl) rfl rfl (x_lss rfl rfl rfl (dT (h1))) ?_
    refine WL.nil ?_
    refine WQ.then ?_
    refine hK12 _ _ _ ?_
    refine WC.sub (l' := [(0, vI a), (1, vI b), (4, vI 0), (5, .bool false), (6, .bool false), (11, .bool false), (13, .bool false), (16, .bool true)]) ⟨rfl, rfl, rfl, rfl, rfl, rfl, rfl, rfl, trivial⟩ ?_
    refine WC.yes rfl ?_
    refine WC.seq fun K13 hK13 => ?_
    refine WC.region ?_
    refine WL.pure (v := vI (-1)) 4 rfl (Nat.le_of_ble_eq_true rfl) rfl rfl (by kernel_rfl) ?_
    refine WL.nil ?_
    refine WQ.then ?_
    refine hK13 _ _ _ ?_
    refine WC.ret ?_
    refine WQ.thenRet ?_
    refine WQ.ret1 4 rfl rfl ?_
    exact ⟨by unfold cmpI; simp [h1], rfl⟩
  ·
    refine WL.pure (v := .bool false) 16 rfl (Nat.le_of_ble_eq_true rfl) rfl rfl (x_lss rfl rfl rfl (dF (h1))) ?_
    refine WL.nil ?_
    refine WQ.then ?_
    refine hK12 _ _ _ ?_
    refine WC.sub (l' := [(0, vI a), (1, vI b), (4, vI 0), (5, .bool false), (6, .bool false), (11, .bool false), (13, .bool false), (16, .bool false)]) ⟨rfl, rfl, rfl, rfl, rfl, rfl, rfl, rfl, trivial⟩ ?_
    refine WC.no rfl ?_
    refine WC.skip ?_
    refine WQ.then ?_
    refine hK11 _ _ _ ?_
    refine WC.seq fun K14 hK14 => ?_
    refine WC.seq fun K15 hK15 => ?_
    refine WC.region ?_
    refine WL.pure (v := vI a) 17 rfl (Nat.le_of_ble_eq_true rfl) rfl rfl (by kernel_rfl) ?_
    refine WL.pure (v := vI b) 18 rfl (Nat.le_of_ble_eq_true rfl) rfl rfl (by kernel_rfl) ?_
    by_cases h2 : b < a
    ·
      refine WL.pure (v := .bool true) 19 rfl (Nat.le_of_ble_eq_true rfl) rfl rfl (x_gtr rfl rfl rfl (dT (h2))) ?_
      refine WL.nil ?_
      refine WQ.then ?_
      refine hK15 _ _ _ ?_
      refine WC.yes rfl ?_
      refine WC.seq fun K16 hK16 => ?_
      refine WC.region ?_
      refine WL.pure (v := vI 1) 4 rfl (Nat.le_of_ble_eq_true rfl) rfl rfl (by kernel_rfl) ?_
      refine WL.nil ?_
      refine WQ.then ?_
      refine hK16 _ _ _ ?_
      refine WC.ret ?_
      refine WQ.thenRet ?_
      refine WQ.ret1 4 rfl rfl ?_
      exact ⟨by unfold cmpI; simp [h1, h2], rfl⟩
    ·
      refine WL.pure (v := .bool false) 19 rfl (Nat.le_of_ble_eq_true rfl) rfl rfl (x_gtr rfl rfl rfl (dF (h2))) ?_
      refine WL.nil ?_
      refine WQ.then ?_
      refine hK15 _ _ _ ?_
      refine WC.no rfl ?_
      refine WC.skip ?_
      refine WQ.then ?_
      refine hK14 _ _ _ ?_
      refine WC.seq fun K17 hK17 => ?_
      refine WC.region ?_
      refine WL.pure (v := vI 0) 4 rfl (Nat.le_of_ble_eq_true rfl) rfl rfl (by kernel_rfl) ?_
      refine WL.nil ?_
      refine WQ.then ?_
      refine hK17 _ _ _ ?_
      refine WC.ret ?_
      refine WQ.ret1 4 rfl rfl ?_
      exact ⟨by unfold cmpI; simp [h1, h2], rfl⟩
set_option maxRecDepth 20000 in
set_option maxHeartbeats 4000000 in
theorem bad_any (x y : Int) (w : World) :
    Calls Try.prog 36 #[.agg #[vI x, vI y]] w fun e w' => e = .returned (.bool (!okS1 x y)) ∧ Below w.heap.size w w' := by
  refine calls_of Try.func36 rfl (m := 21) rfl [(0, .agg #[vI x, vI y])] (Fr_enter [.agg #[vI x, vI y]] 21 (Nat.le_of_ble_eq_true rfl)) ?_
  have hH1 : HP Tr w w [] := HP.refl w
  refine WC.seq fun K2 hK2 => ?_
  refine WC.region ?_
  refine WL.alloc (c := #[vI x, vI y]) (T := 67) hH1 1 rfl (by decide) rfl rfl (fun b3 => vP b3 0) (by kernel_rfl) (fun b3 w4 hw4 => ?_)
  have hH5 : HP Tr w w4 [.cel b3 #[vI x, vI y] 67] := hw4.2
  have nb3 := hw4.1
  clear hw4
  refine WL.pure (v := .bool false) 2 rfl (Nat.le_of_ble_eq_true rfl) rfl rfl (by kernel_rfl) ?_
  refine WL.nil ?_
  refine WQ.then ?_
  refine hK2 _ _ _ ?_
  refine WC.seq fun K6 hK6 => ?_
  refine WC.region ?_
  refine WL.pure (v := vP b3 0) 3 rfl (Nat.le_of_ble_eq_true rfl) rfl rfl (by kernel_rfl) ?_
  refine WL.pure (v := vI x) 4 rfl (Nat.le_of_ble_eq_true rfl) rfl rfl (x_load rfl rfl Try.underlying3 rfl (HP.cell hH5 0 rfl rfl)) ?_
  by_cases h0 : x < 0
  ·
    refine WL.pure (v := .bool true) 5 rfl (Nat.le_of_ble_eq_true rfl) rfl rfl (x_lss rfl rfl rfl (dT (h0))) ?_
    refine WL.pure (v := .bool true) 6 rfl (Nat.le_of_ble_eq_true rfl) rfl rfl (by kernel_rfl) ?_
    refine WL.pass 7 rfl (Nat.le_of_ble_eq_true rfl) rfl ?_
    refine WL.pass 8 rfl (Nat.le_of_ble_eq_true rfl) rfl ?_
    refine WL.pass 9 rfl (Nat.le_of_ble_eq_true rfl) rfl ?_
    refine WL.pure (v := .bool true) 10 rfl (Nat.le_of_ble_eq_true rfl) rfl rfl (by kernel_rfl) ?_
    refine WL.pure (v := .bool true) 11 rfl (Nat.le_of_ble_eq_true rfl) rfl rfl (by kernel_rfl) ?_
    refine WL.pass 12 rfl (Nat.le_of_ble_eq_true rfl) rfl ?_
    refine WL.pass 13 rfl (Nat.le_of_ble_eq_true rfl) rfl ?_
    refine WL.pass 14 rfl (Nat.le_of_ble_eq_true rfl) rfl ?_
    refine WL.pure (v := .bool true) 15 rfl (Nat.le_of_ble_eq_true rfl) rfl rfl (by kernel_rfl) ?_
    refine WL.pure (v := .bool true) 16 rfl (Nat.le_of_ble_eq_true rfl) rfl rfl (by kernel_rfl) ?_
    refine WL.pass 17 rfl (Nat.le_of_ble_eq_true rfl) rfl ?_
    refine WL.pass 18 rfl (Nat.le_of_ble_eq_true rfl) rfl ?_
    refine WL.pass 19 rfl (Nat.le_of_ble_eq_true rfl) rfl ?_
    refine WL.pure (v := .bool true) 20 rfl (Nat.le_of_ble_eq_true rfl) rfl rfl (by kernel_rfl) ?_
    refine WL.pure (v := .bool true) 2 rfl (Nat.le_of_ble_eq_true rfl) rfl rfl (by kernel_rfl) ?_
    refine WL.nil ?_
    refine WQ.then ?_
    refine hK6 _ _ _ ?_
    refine WC.sub (l' := [(0, .agg #[vI x, vI y]), (1, vP b3 0), (2, .bool true)]) ⟨rfl, rfl, rfl, trivial⟩ ?_
    refine WC.ret ?_
    refine WQ.ret1 2 rfl rfl ?_
    exact ⟨by rw [show (!okS1 x y) = true by unfold okS1 okM; simp; omega], HP.below hH5⟩
  ·
    refine WL.pure (v := .bool false) 5 rfl (Nat.le_of_ble_eq_true rfl) rfl rfl (x_lss rfl rfl rfl (dF (h0))) ?_
    refine WL.pure (v := .bool false) 6 rfl (Nat.le_of_ble_eq_true rfl) rfl rfl (by kernel_rfl) ?_
    refine WL.pure (v := vP b3 0) 7 rfl (Nat.le_of_ble_eq_true rfl) rfl rfl (by kernel_rfl) ?_
    refine WL.pure (v := vI x) 8 rfl (Nat.le_of_ble_eq_true rfl) rfl rfl (x_load rfl rfl Try.underlying3 rfl (HP.cell hH5 0 rfl rfl)) ?_
    by_cases h1 : (4 : Int) ≤ x
    ·
      refine WL.pure (v := .bool true) 9 rfl (Nat.le_of_ble_eq_true rfl) rfl rfl (x_geq rfl rfl rfl (dT (h1))) ?_
      refine WL.pure (v := .bool true) 10 rfl (Nat.le_of_ble_eq_true rfl) rfl rfl (by kernel_rfl) ?_
      refine WL.pure (v := .bool true) 11 rfl (Nat.le_of_ble_eq_true rfl) rfl rfl (by kernel_rfl) ?_
      refine WL.pass 12 rfl (Nat.le_of_ble_eq_true rfl) rfl ?_
      refine WL.pass 13 rfl (Nat.le_of_ble_eq_true rfl) rfl ?_
      refine WL.pass 14 rfl (Nat.le_of_ble_eq_true rfl) rfl ?_
      refine WL.pure (v := .bool true) 15 rfl (Nat.le_of_ble_eq_true rfl) rfl rfl (by kernel_rfl) ?_
      refine WL.pure (v := .bool true) 16 rfl (Nat.le_of_ble_eq_true rfl) rfl rfl (by kernel_rfl) ?_
      refine WL.pass 17 rfl (Nat.le_of_ble_eq_true rfl) rfl ?_
      refine WL.pass 18 rfl (Nat.le_of_ble_eq_true rfl) rfl ?_
      refine WL.pass 19 rfl (Nat.le_of_ble_eq_true rfl) rfl ?_
      refine WL.pure (v := .bool true) 20 rfl (Nat.le_of_ble_eq_true rfl) rfl rfl (by kernel_rfl) ?_
      refine WL.pure (v := .bool true) 2 rfl (Nat.le_of_ble_eq_true rfl) rfl rfl (by kernel_rfl) ?_
      refine WL.nil ?_
      refine WQ.then ?_
      refine hK6 _ _ _ ?_
      refine WC.sub (l' := [(0, .agg #[vI x, vI y]), (1, vP b3 0), (2, .bool true)]) ⟨rfl, rfl, rfl, trivial⟩ ?_
      refine WC.ret ?_
      refine WQ.ret1 2 rfl rfl ?_
      exact ⟨by rw [show (!okS1 x y) = true by unfold okS1 okM; simp; omega], HP.below hH5⟩
    ·
      refine WL.pure (v := .bool false) 9 rfl (Nat.le_of_ble_eq_true rfl) rfl rfl (x_geq rfl rfl rfl (dF (h1))) ?_
      refine WL.pure (v := .bool false) 10 rfl (Nat.le_of_ble_eq_true rfl) rfl rfl (by kernel_rfl) ?_
      refine WL.pure (v := .bool false) 11 rfl (Nat.le_of_ble_eq_true rfl) rfl rfl (by kernel_rfl) ?_
      refine WL.pure (v := vP b3 1) 12 rfl (Nat.le_of_ble_eq_true rfl) rfl rfl (by kernel_rfl) ?_
      refine WL.pure (v := vI y) 13 rfl (Nat.le_of_ble_eq_true rfl) rfl rfl (x_load rfl rfl Try.underlying3 rfl (HP.cell hH5 0 rfl rfl)) ?_
      by_cases h2 : y < 1
      ·
        refine WL.pure (v := .bool true) 14 rfl (Nat.le_of_ble_eq_true rfl) rfl rfl (x_lss rfl rfl rfl (dT (h2))) ?_
        refine WL.pure (v := .bool true) 15 rfl (Nat.le_of_ble_eq_true rfl) rfl rfl (by kernel_rfl) ?_
        refine WL.pure (v := .bool true) 16 rfl (Nat.le_of_ble_eq_true rfl) rfl rfl (by kernel_rfl) ?_
        refine WL.pass 17 rfl (Nat.le_of_ble_eq_true rfl) rfl ?_
        refine WL.pass 18 rfl (Nat.le_of_ble_eq_true rfl) rfl ?_
        refine WL.pass 19 rfl (Nat.le_of_ble_eq_true rfl) rfl ?_
        refine WL.pure (v := .bool true) 20 rfl (Nat.le_of_ble_eq_true rfl) rfl rfl (by kernel_rfl) ?_
        refine WL.pure (v := .bool true) 2 rfl (Nat.le_of_ble_eq_true rfl) rfl rfl (by kernel_rfl) ?_
        refine WL.nil ?_
        refine WQ.then ?_
        refine hK6 _ _ _ ?_
        refine WC.sub (l' := [(0, .agg #[vI x, vI y]), (1, vP b3 0), (2, .bool true)]) ⟨rfl, rfl, rfl, trivial⟩ ?_
        refine WC.ret ?_
        refine WQ.ret1 2 rfl rfl ?_
        exact ⟨by rw [show (!okS1 x y) = true by unfold okS1 okM; simp; omega], HP.below hH5⟩
      ·
        refine WL.pure (v := .bool false) 14 rfl (Nat.le_of_ble_eq_true rfl) rfl rfl (x_lss rfl rfl rfl (dF (h2))) ?_
        refine WL.pure (v := .bool false) 15 rfl (Nat.le_of_ble_eq_true rfl) rfl rfl (by kernel_rfl) ?_
        refine WL.pure (v := .bool false) 16 rfl (Nat.le_of_ble_eq_true rfl) rfl rfl (by kernel_rfl) ?_
        refine WL.pure (v := vP b3 1) 17 rfl (Nat.le_of_ble_eq_true rfl) rfl rfl (by kernel_rfl) ?_
        refine WL.pure (v := vI y) 18 rfl (Nat.le_of_ble_eq_true rfl) rfl rfl (x_load rfl rfl Try.underlying3 rfl (HP.cell hH5 0 rfl rfl)) ?_
        by_cases h3 : (50 : Int) < y
        ·
          refine WL.pure (v := .bool true) 19 rfl (Nat.le_of_ble_eq_true rfl) rfl rfl (x_gtr rfl rfl rfl (dT (h3))) ?_
          refine WL.pure (v := .bool true) 20 rfl (Nat.le_of_ble_eq_true rfl) rfl rfl (by kernel_rfl) ?_
          refine WL.pure (v := .bool true) 2 rfl (Nat.le_of_ble_eq_true rfl) rfl rfl (by kernel_rfl) ?_
          refine WL.nil ?_
          refine WQ.then ?_
          refine hK6 _ _ _ ?_
          refine WC.sub (l' := [(0, .agg #[vI x, vI y]), (1, vP b3 0), (2, .bool true)]) ⟨rfl, rfl, rfl, trivial⟩ ?_
          refine WC.ret ?_
          refine WQ.ret1 2 rfl rfl ?_
          exact ⟨by rw [show (!okS1 x y) = true by unfold okS1 okM; simp; omega], HP.below hH5⟩
        ·
          refine WL.pure (v := .bool false) 19 rfl (Nat.le_of_ble_eq_true rfl) rfl rfl (x_gtr rfl rfl rfl (dF (h3))) ?_
          refine WL.pure (v := .bool false) 20 rfl (Nat.le_of_ble_eq_true rfl) rfl rfl (by kernel_rfl) ?_
          refine WL.pure (v := .bool false) 2 rfl (Nat.le_of_ble_eq_true rfl) rfl rfl (by kernel_rfl) ?_
          refine WL.nil ?_
          refine WQ.then ?_
          refine hK6 _ _ _ ?_
          refine WC.sub (l' := [(0, .agg #[vI x, vI y]), (1, vP b3 0), (2, .bool false)]) ⟨rfl, rfl, rfl, trivial⟩ ?_
          refine WC.ret ?_
          refine WQ.ret1 2 rfl rfl ?_
          exact ⟨by rw [show (!okS1 x y) = false by unfold okS1 okM; simp; omega], HP.below hH5⟩
set_option maxRecDepth 20000 in
set_option maxHeartbeats 4000000 in
theorem indexS_any (p : Option Addr) (N cap : Nat) (o sp : Nat → Int) (w : World) (hS : InS w p N o sp) (hN : N ≤ 1000) :
    Calls Try.prog 46 #[.slice p N cap, .func (.func 36) #[] #[]] w fun e w' => ∃ r : Int, e = .returned (.int .i64 r) ∧ decide (0 ≤ r) = (!allS o sp N) ∧ Below w.heap.size w w' := by
  refine calls_of Try.func46 rfl (m := 19) rfl [(0, .slice p N cap), (1, .func (.func 36) #[] #[])] (Fr_enter [.slice p N cap, .func (.func 36) #[] #[]] 19 (Nat.le_of_ble_eq_true rfl)) ?_
  have hH1 : HP Tr w w [] := HP.refl w
  refine WC.seq fun K2 hK2 => ?_
  refine WC.region ?_
  refine WL.pure (v := vI 0) 4 rfl (Nat.le_of_ble_eq_true rfl) rfl rfl (by kernel_rfl) ?_
  refine WL.nil ?_
  refine WQ.then ?_
  refine hK2 _ _ _ ?_
  refine WC.seq fun K3 hK3 => ?_
  refine WC.seq fun K4 hK4 => ?_
  refine WC.region ?_
  refine WL.pure (v := .slice p N cap) 6 rfl (Nat.le_of_ble_eq_true rfl) rfl rfl (by kernel_rfl) ?_
  refine WL.pure (v := vI (N : Int)) 7 rfl (Nat.le_of_ble_eq_true rfl) rfl rfl (by kernel_rfl) ?_
  refine WL.pure (v := vI 0) 8 rfl (Nat.le_of_ble_eq_true rfl) rfl rfl (by kernel_rfl) ?_
  refine WL.nil ?_
  refine WQ.then ?_
  refine hK4 _ _ _ ?_
  refine WC.block ?_
  refine WC.loop (fun kk0 ll0 ww0 => ∃ (k : Nat), ll0 = [(0, .slice p N cap), (1, .func (.func 36) #[] #[]), (7, vI (N : Int)), (8, vI (k : Int))] ∧ kk0 = N - k ∧ (k ≤ N) ∧ (∀ i, i < k → okS1 (o i) (sp i) = true) ∧ HP Tr w ww0 []) (N) [(0, .slice p N cap), (1, .func (.func 36) #[] #[]), (7, vI (N : Int)), (8, vI 0)] ⟨rfl, rfl, rfl, rfl, trivial⟩ ⟨0, rfl, rfl, Nat.zero_le _, (fun i hi => by omega), hH1⟩ ?_
  rintro kk l w6 ⟨k, rfl, hkk, hk, hall, hH7⟩ K5 hK5
  refine WC.seq fun K8 hK8 => ?_
  refine WC.region ?_
  by_cases hlt : (k : Int) < (N : Int)
  ·
    refine WL.pure (v := .bool true) 9 rfl (Nat.le_of_ble_eq_true rfl) rfl rfl (x_lss rfl rfl rfl (dT (hlt))) ?_
    refine WL.nil ?_
    refine WQ.then ?_
    refine hK8 _ _ _ ?_
    refine WC.seq fun K9 hK9 => ?_
    refine WC.yes rfl ?_
    refine WC.skip ?_
    refine WQ.then ?_
    refine hK9 _ _ _ ?_
    refine WC.seq fun K10 hK10 => ?_
    refine WC.block ?_
    refine WC.seq fun K11 hK11 => ?_
    refine WC.region ?_
    refine WL.pure (v := vI (k : Int)) 10 rfl (Nat.le_of_ble_eq_true rfl) rfl rfl (by kernel_rfl) ?_
    refine WL.pure (v := vI (k : Int)) 5 rfl (Nat.le_of_ble_eq_true rfl) rfl rfl (by kernel_rfl) ?_
    refine WL.nil ?_
    refine WQ.then ?_
    refine hK11 _ _ _ ?_
    refine WC.seq fun K12 hK12 => ?_
    obtain ⟨bb, oo, rfl, hrow⟩ := hS (by omega)
    refine WC.region ?_
    refine WL.pure (v := .func (.func 36) #[] #[]) 11 rfl (Nat.le_of_ble_eq_true rfl) rfl rfl (by kernel_rfl) ?_
    refine WL.pure (v := .slice (some ⟨bb, oo, none⟩) N cap) 12 rfl (Nat.le_of_ble_eq_true rfl) rfl rfl (by kernel_rfl) ?_
    refine WL.pure (v := vI (k : Int)) 13 rfl (Nat.le_of_ble_eq_true rfl) rfl rfl (by kernel_rfl) ?_
    refine WL.pure (v := vP bb (oo + k * 2)) 14 rfl (Nat.le_of_ble_eq_true rfl) rfl rfl (x_idx (k) (oo + k * 2) rfl rfl rfl Try.underlying22 sz67 (by omega) (by omega) (by omega)) ?_
    refine WL.pure (v := .agg #[vI (o k), vI (sp k)]) 15 rfl (Nat.le_of_ble_eq_true rfl) rfl rfl (x_loadS (cs := [vI (o k), vI (sp k)]) rfl rfl Try.underlying67 rfl sz67 (HP.oldRange hH7 trivial (hrow k (by omega)))) ?_
    refine WL.call (f := 36) (args := #[.agg #[vI (o k), vI (sp k)]]) 16 rfl (Nat.le_of_ble_eq_true rfl) rfl rfl (by kernel_rfl) ?_
    refine (bad_any _ _ _).mono ?_
    rintro e w13 ⟨rfl, hb14⟩
    refine ⟨_, rfl, ?_⟩
    have hH15 : HP Tr w _ [] := HP.call hH7 hb14
    refine WL.nil ?_
    refine WQ.then ?_
    refine hK12 _ _ _ ?_
    refine WC.sub (l' := [(0, .slice (some ⟨bb, oo, none⟩) N cap), (1, .func (.func 36) #[] #[]), (5, vI (k : Int)), (7, vI (N : Int)), (8, vI (k : Int)), (9, .bool true), (16, .bool (!okS1 (o k) (sp k)))]) ⟨rfl, rfl, rfl, rfl, rfl, rfl, rfl, trivial⟩ ?_
    rcases Bool.eq_false_or_eq_true ((!okS1 (o k) (sp k))) with hb | hb
    ·
      refine WC.yes (congrArg (fun b => some (Value.bool b)) hb) ?_
      refine WC.seq fun K16 hK16 => ?_
      refine WC.region ?_
      refine WL.pure (v := vI (k : Int)) 17 rfl (Nat.le_of_ble_eq_true rfl) rfl rfl (by kernel_rfl) ?_
      refine WL.pure (v := vI (k : Int)) 4 rfl (Nat.le_of_ble_eq_true rfl) rfl rfl (by kernel_rfl) ?_
      refine WL.nil ?_
      refine WQ.then ?_
      refine hK16 _ _ _ ?_
      refine WC.ret ?_
      refine WQ.inRet ?_
      refine WQ.thenRet ?_
      refine WQ.thenRet ?_
      refine WQ.inRet ?_
      refine WQ.thenRet ?_
      refine WQ.ret1 4 rfl rfl ?_
      exact ⟨(k : Int), rfl, by rw [show allS o sp N = false from allS_no (i := k) (by omega) (by simpa using hb)]; exact decide_eq_true (by omega), HP.below hH15⟩
    ·
      refine WC.no (congrArg (fun b => some (Value.bool b)) hb) ?_
      refine WC.skip ?_
      refine WQ.inNormal ?_
      refine WQ.then ?_
      refine hK10 _ _ _ ?_
      refine WC.region ?_
      refine WL.pure (v := vI ((k + 1 : Nat) : Int)) 18 rfl (Nat.le_of_ble_eq_true rfl) rfl rfl (x_add (Z := ((k + 1 : Nat) : Int)) rfl rfl rfl (by omega) (by omega) (by omega)) ?_
      refine WL.pure (v := vI ((k + 1 : Nat) : Int)) 8 rfl (Nat.le_of_ble_eq_true rfl) rfl rfl (by kernel_rfl) ?_
      refine WL.nil ?_
      refine WQ.sub (l' := [(0, .slice (some ⟨bb, oo, none⟩) N cap), (1, .func (.func 36) #[] #[]), (7, vI (N : Int)), (8, vI ((k + 1 : Nat) : Int))]) ⟨rfl, rfl, rfl, rfl, trivial⟩ ?_
      refine WQ.then (hK5 _ _ _ (by omega) ⟨k + 1, rfl, rfl, by omega, (fun i hi => by
                by_cases q : i = k
                · subst q; simpa using hb
                · exact hall i (by omega)), hH15⟩)
  ·
    refine WL.pure (v := .bool false) 9 rfl (Nat.le_of_ble_eq_true rfl) rfl rfl (x_lss rfl rfl rfl (dF (hlt))) ?_
    refine WL.nil ?_
    refine WQ.then ?_
    refine hK8 _ _ _ ?_
    refine WC.seq fun K17 hK17 => ?_
    refine WC.no rfl ?_
    refine WC.exit ?_
    refine WQ.thenExit ?_
    refine WQ.thenExit ?_
    refine WQ.inExit ?_
    refine WQ.then ?_
    refine hK3 _ _ _ ?_
    refine WC.seq fun K18 hK18 => ?_
    refine WC.region ?_
    refine WL.pure (v := vI (-1)) 4 rfl (Nat.le_of_ble_eq_true rfl) rfl rfl (by kernel_rfl) ?_
    refine WL.nil ?_
    refine WQ.then ?_
    refine hK18 _ _ _ ?_
    refine WC.ret ?_
    refine WQ.ret1 4 rfl rfl ?_
    exact ⟨-1, rfl, by rw [show allS o sp N = true from allS_iff.2 fun i hi => hall i (by omega)]; rfl, HP.below hH7⟩
set_option maxRecDepth 20000 in
set_option maxHeartbeats 4000000 in
theorem containsS_any (p : Option Addr) (N cap : Nat) (o sp : Nat → Int) (w : World) (hS : InS w p N o sp) (hN : N ≤ 1000) :
    Calls Try.prog 35 #[.slice p N cap, .func (.func 36) #[] #[]] w fun e w' => e = .returned (.bool (!allS o sp N)) ∧ Below w.heap.size w w' := by
  refine calls_of Try.func35 rfl (m := 9) rfl [(0, .slice p N cap), (1, .func (.func 36) #[] #[])] (Fr_enter [.slice p N cap, .func (.func 36) #[] #[]] 9 (Nat.le_of_ble_eq_true rfl)) ?_
  have hH1 : HP Tr w w [] := HP.refl w
  refine WC.seq fun K2 hK2 => ?_
  refine WC.region ?_
  refine WL.pure (v := .bool false) 4 rfl (Nat.le_of_ble_eq_true rfl) rfl rfl (by kernel_rfl) ?_
  refine WL.nil ?_
  refine WQ.then ?_
  refine hK2 _ _ _ ?_
  refine WC.seq fun K3 hK3 => ?_
  refine WC.region ?_
  refine WL.pure (v := .slice p N cap) 5 rfl (Nat.le_of_ble_eq_true rfl) rfl rfl (by kernel_rfl) ?_
  refine WL.pure (v := .func (.func 36) #[] #[]) 6 rfl (Nat.le_of_ble_eq_true rfl) rfl rfl (by kernel_rfl) ?_
  refine WL.call (f := 46) (args := #[.slice p N cap, .func (.func 36) #[] #[]]) 7 rfl (Nat.le_of_ble_eq_true rfl) rfl rfl (by kernel_rfl) ?_
  refine (indexS_any p N cap o sp _ (hS.below (HP.below hH1)) hN).mono ?_
  rintro e w4 ⟨r, rfl, hr9, hb5⟩
  refine ⟨_, rfl, ?_⟩
  have hH6 : HP Tr w _ [] := HP.call hH1 hb5
  by_cases h8 : (0 : Int) ≤ r
  ·
    refine WL.pure (v := .bool true) 8 rfl (Nat.le_of_ble_eq_true rfl) rfl rfl (x_geq rfl rfl rfl (dT (h8))) ?_
    refine WL.pure (v := .bool true) 4 rfl (Nat.le_of_ble_eq_true rfl) rfl rfl (by kernel_rfl) ?_
    refine WL.nil ?_
    refine WQ.then ?_
    refine hK3 _ _ _ ?_
    refine WC.ret ?_
    refine WQ.ret1 4 rfl rfl ?_
    exact ⟨by rw [← hr9, show decide (0 ≤ r) = true from dT h8], HP.below hH6⟩
  ·
    refine WL.pure (v := .bool false) 8 rfl (Nat.le_of_ble_eq_true rfl) rfl rfl (x_geq rfl rfl rfl (dF (h8))) ?_
    refine WL.pure (v := .bool false) 4 rfl (Nat.le_of_ble_eq_true rfl) rfl rfl (by kernel_rfl) ?_
    refine WL.nil ?_
    refine WQ.then ?_
    refine hK3 _ _ _ ?_
    refine WC.ret ?_
    refine WQ.ret1 4 rfl rfl ?_
    exact ⟨by rw [← hr9, show decide (0 ≤ r) = false from dF h8], HP.below hH6⟩
set_option maxRecDepth 20000 in
set_option maxHeartbeats 4000000 in
theorem bvalid_any (p : Option Addr) (N cap : Nat) (o sp : Nat → Int) (w : World) (hS : InS w p N o sp) (hN : N ≤ 1000) :
    Calls Try.prog 17 #[.slice p N cap] w fun e w' => e = .returned (.bool (okL o sp N)) ∧ Below w.heap.size w w' := by
  refine calls_of Try.func17 rfl (m := 14) rfl [(0, .slice p N cap)] (Fr_enter [.slice p N cap] 14 (Nat.le_of_ble_eq_true rfl)) ?_
  have hH1 : HP Tr w w [] := HP.refl w
  refine WC.seq fun K2 hK2 => ?_
  refine WC.region ?_
  refine WL.pure (v := .bool false) 2 rfl (Nat.le_of_ble_eq_true rfl) rfl rfl (by kernel_rfl) ?_
  refine WL.nil ?_
  refine WQ.then ?_
  refine hK2 _ _ _ ?_
  refine WC.seq fun K3 hK3 => ?_
  refine WC.seq fun K4 hK4 => ?_
  refine WC.region ?_
  refine WL.pure (v := .slice p N cap) 3 rfl (Nat.le_of_ble_eq_true rfl) rfl rfl (by kernel_rfl) ?_
  refine WL.pure (v := vI (N : Int)) 4 rfl (Nat.le_of_ble_eq_true rfl) rfl rfl (by kernel_rfl) ?_
  by_cases h5 : (N : Int) < 1
  ·
    refine WL.pure (v := .bool true) 5 rfl (Nat.le_of_ble_eq_true rfl) rfl rfl (x_lss rfl rfl rfl (dT (h5))) ?_
    refine WL.pure (v := .bool true) 6 rfl (Nat.le_of_ble_eq_true rfl) rfl rfl (by kernel_rfl) ?_
    refine WL.pass 7 rfl (Nat.le_of_ble_eq_true rfl) rfl ?_
    refine WL.pass 8 rfl (Nat.le_of_ble_eq_true rfl) rfl ?_
    refine WL.pass 9 rfl (Nat.le_of_ble_eq_true rfl) rfl ?_
    refine WL.pure (v := .bool true) 10 rfl (Nat.le_of_ble_eq_true rfl) rfl rfl (by kernel_rfl) ?_
    refine WL.nil ?_
    refine WQ.then ?_
    refine hK4 _ _ _ ?_
    refine WC.sub (l' := [(0, .slice p N cap), (2, .bool false), (10, .bool true)]) ⟨rfl, rfl, rfl, trivial⟩ ?_
    refine WC.yes rfl ?_
    refine WC.seq fun K5 hK5 => ?_
    refine WC.region ?_
    refine WL.pure (v := .bool false) 2 rfl (Nat.le_of_ble_eq_true rfl) rfl rfl (by kernel_rfl) ?_
    refine WL.nil ?_
    refine WQ.then ?_
    refine hK5 _ _ _ ?_
    refine WC.ret ?_
    refine WQ.thenRet ?_
    refine WQ.ret1 2 rfl rfl ?_
    exact ⟨by rw [show okL o sp N = false by unfold okL; simp; omega], HP.below hH1⟩
  ·
    refine WL.pure (v := .bool false) 5 rfl (Nat.le_of_ble_eq_true rfl) rfl rfl (x_lss rfl rfl rfl (dF (h5))) ?_
    refine WL.pure (v := .bool false) 6 rfl (Nat.le_of_ble_eq_true rfl) rfl rfl (by kernel_rfl) ?_
    refine WL.pure (v := .slice p N cap) 7 rfl (Nat.le_of_ble_eq_true rfl) rfl rfl (by kernel_rfl) ?_
    refine WL.pure (v := vI (N : Int)) 8 rfl (Nat.le_of_ble_eq_true rfl) rfl rfl (by kernel_rfl) ?_
    by_cases h9 : (8 : Int) < (N : Int)
    ·
      refine WL.pure (v := .bool true) 9 rfl (Nat.le_of_ble_eq_true rfl) rfl rfl (x_gtr rfl rfl rfl (dT (h9))) ?_
      refine WL.pure (v := .bool true) 10 rfl (Nat.le_of_ble_eq_true rfl) rfl rfl (by kernel_rfl) ?_
      refine WL.nil ?_
      refine WQ.then ?_
      refine hK4 _ _ _ ?_
      refine WC.sub (l' := [(0, .slice p N cap), (2, .bool false), (10, .bool true)]) ⟨rfl, rfl, rfl, trivial⟩ ?_
      refine WC.yes rfl ?_
      refine WC.seq fun K6 hK6 => ?_
      refine WC.region ?_
      refine WL.pure (v := .bool false) 2 rfl (Nat.le_of_ble_eq_true rfl) rfl rfl (by kernel_rfl) ?_
      refine WL.nil ?_
      refine WQ.then ?_
      refine hK6 _ _ _ ?_
      refine WC.ret ?_
      refine WQ.thenRet ?_
      refine WQ.ret1 2 rfl rfl ?_
      exact ⟨by rw [show okL o sp N = false by unfold okL; simp; omega], HP.below hH1⟩
    ·
      refine WL.pure (v := .bool false) 9 rfl (Nat.le_of_ble_eq_true rfl) rfl rfl (x_gtr rfl rfl rfl (dF (h9))) ?_
      refine WL.pure (v := .bool false) 10 rfl (Nat.le_of_ble_eq_true rfl) rfl rfl (by kernel_rfl) ?_
      refine WL.nil ?_
      refine WQ.then ?_
      refine hK4 _ _ _ ?_
      refine WC.sub (l' := [(0, .slice p N cap), (2, .bool false), (10, .bool false)]) ⟨rfl, rfl, rfl, trivial⟩ ?_
      refine WC.no rfl ?_
      refine WC.skip ?_
      refine WQ.then ?_
      refine hK3 _ _ _ ?_
      refine WC.seq fun K7 hK7 => ?_
      refine WC.region ?_
      refine WL.pure (v := .slice p N cap) 11 rfl (Nat.le_of_ble_eq_true rfl) rfl rfl (by kernel_rfl) ?_
      refine WL.call (f := 35) (args := #[.slice p N cap, .func (.func 36) #[] #[]]) 12 rfl (Nat.le_of_ble_eq_true rfl) rfl rfl (by kernel_rfl) ?_
      refine (containsS_any p N cap o sp _ (hS.below (HP.below hH1)) hN).mono ?_
      rintro e w8 ⟨rfl, hb9⟩
      refine ⟨_, rfl, ?_⟩
      have hH10 : HP Tr w _ [] := HP.call hH1 hb9
      refine WL.pure (v := .bool (!(!allS o sp N))) 13 rfl (Nat.le_of_ble_eq_true rfl) rfl rfl (by kernel_rfl) ?_
      refine WL.pure (v := .bool (!(!allS o sp N))) 2 rfl (Nat.le_of_ble_eq_true rfl) rfl rfl (by kernel_rfl) ?_
      refine WL.nil ?_
      refine WQ.then ?_
      refine hK7 _ _ _ ?_
      refine WC.ret ?_
      refine WQ.ret1 2 rfl rfl ?_
      exact ⟨by rw [show okL o sp N = allS o sp N by unfold okL; rw [decide_eq_true (show 1 ≤ N by omega), decide_eq_true (show N ≤ 8 by omega)]; rfl]; simp, HP.below hH10⟩
set_option maxRecDepth 20000 in
set_option maxHeartbeats 4000000 in
theorem period_any (W : Wh) (w : World) :
    Calls Try.prog 20 #[.agg #[.slice (W.p 0) (W.n 0) (W.c 0), .slice (W.p 1) (W.n 1) (W.c 1), .slice (W.p 2) (W.n 2) (W.c 2), .slice (W.p 3) (W.n 3) (W.c 3), .slice (W.p 4) (W.n 4) (W.c 4)]] w fun e w' => e = .returned (.int .i64 (W.n 0 : Int)) ∧ Below w.heap.size w w' := by
  refine calls_of Try.func20 rfl (m := 6) rfl [(0, .agg #[.slice (W.p 0) (W.n 0) (W.c 0), .slice (W.p 1) (W.n 1) (W.c 1), .slice (W.p 2) (W.n 2) (W.c 2), .slice (W.p 3) (W.n 3) (W.c 3), .slice (W.p 4) (W.n 4) (W.c 4)])] (Fr_enter [.agg #[.slice (W.p 0) (W.n 0) (W.c 0), .slice (W.p 1) (W.n 1) (W.c 1), .slice (W.p 2) (W.n 2) (W.c 2), .slice (W.p 3) (W.n 3) (W.c 3), .slice (W.p 4) (W.n 4) (W.c 4)]] 6 (Nat.le_of_ble_eq_true rfl)) ?_
  have hH1 : HP Tr w w [] := HP.refl w
  refine WC.seq fun K2 hK2 => ?_
  refine WC.region ?_
  refine WL.alloc (c := #[.slice (W.p 0) (W.n 0) (W.c 0), .slice (W.p 1) (W.n 1) (W.c 1), .slice (W.p 2) (W.n 2) (W.c 2), .slice (W.p 3) (W.n 3) (W.c 3), .slice (W.p 4) (W.n 4) (W.c 4)]) (T := 55) hH1 1 rfl (by decide) rfl rfl (fun b1 => vP b1 0) (by kernel_rfl) (fun b1 w3 hw3 => ?_)
  have hH4 : HP Tr w w3 [.cel b1 #[.slice (W.p 0) (W.n 0) (W.c 0), .slice (W.p 1) (W.n 1) (W.c 1), .slice (W.p 2) (W.n 2) (W.c 2), .slice (W.p 3) (W.n 3) (W.c 3), .slice (W.p 4) (W.n 4) (W.c 4)] 55] := hw3.2
  have nb1 := hw3.1
  clear hw3
  refine WL.pure (v := vI 0) 2 rfl (Nat.le_of_ble_eq_true rfl) rfl rfl (by kernel_rfl) ?_
  refine WL.nil ?_
  refine WQ.then ?_
  refine hK2 _ _ _ ?_
  refine WC.seq fun K5 hK5 => ?_
  refine WC.region ?_
  refine WL.pure (v := vP b1 0) 3 rfl (Nat.le_of_ble_eq_true rfl) rfl rfl (by kernel_rfl) ?_
  refine WL.pure (v := .slice (W.p 0) (W.n 0) (W.c 0)) 4 rfl (Nat.le_of_ble_eq_true rfl) rfl rfl (x_load rfl rfl Try.underlying23 rfl (HP.cell hH4 0 rfl rfl)) ?_
  refine WL.pure (v := vI (((W.n 0) : Nat) : Int)) 5 rfl (Nat.le_of_ble_eq_true rfl) rfl rfl (by kernel_rfl) ?_
  refine WL.pure (v := vI (((W.n 0) : Nat) : Int)) 2 rfl (Nat.le_of_ble_eq_true rfl) rfl rfl (by kernel_rfl) ?_
  refine WL.nil ?_
  refine WQ.then ?_
  refine hK5 _ _ _ ?_
  refine WC.ret ?_
  refine WQ.ret1 2 rfl rfl ?_
  exact ⟨rfl, HP.below hH4⟩
set_option maxRecDepth 20000 in
set_option maxHeartbeats 4000000 in
theorem search_any (px : Option Addr) (cap : Nat) (xs : List Int) (x : Int) (w : World) (hI : InI w px xs) (hs : xs.Pairwise fun a b => a < b) (hM : xs.length ≤ 1000) :
    Calls Try.prog 47 #[.slice px xs.length cap, vI x] w fun e w' => ∃ fb : Bool, e = .returned (.tuple #[.int .i64 (lb xs x : Int), .bool fb]) ∧ Below w.heap.size w w' := by
  refine calls_of Try.func47 rfl (m := 54) rfl [(0, .slice px xs.length cap), (1, vI x)] (Fr_enter [.slice px xs.length cap, vI x] 54 (Nat.le_of_ble_eq_true rfl)) ?_
  have hH1 : HP Tr w w [] := HP.refl w
  refine WC.seq fun K2 hK2 => ?_
  refine WC.region ?_
  refine WL.pure (v := vI 0) 4 rfl (Nat.le_of_ble_eq_true rfl) rfl rfl (by kernel_rfl) ?_
  refine WL.pure (v := .bool false) 5 rfl (Nat.le_of_ble_eq_true rfl) rfl rfl (by kernel_rfl) ?_
  refine WL.nil ?_
  refine WQ.then ?_
  refine hK2 _ _ _ ?_
  refine WC.seq fun K3 hK3 => ?_
  refine WC.region ?_
  refine WL.pure (v := .slice px xs.length cap) 10 rfl (Nat.le_of_ble_eq_true rfl) rfl rfl (by kernel_rfl) ?_
  refine WL.pure (v := vI (xs.length : Int)) 11 rfl (Nat.le_of_ble_eq_true rfl) rfl rfl (by kernel_rfl) ?_
  refine WL.pure (v := vI (xs.length : Int)) 6 rfl (Nat.le_of_ble_eq_true rfl) rfl rfl (by kernel_rfl) ?_
  refine WL.nil ?_
  refine WQ.then ?_
  refine hK3 _ _ _ ?_
  refine WC.seq fun K4 hK4 => ?_
  refine WC.region ?_
  refine WL.pure (v := vI (xs.length : Int)) 12 rfl (Nat.le_of_ble_eq_true rfl) rfl rfl (by kernel_rfl) ?_
  refine WL.pure (v := vI 0) 7 rfl (Nat.le_of_ble_eq_true rfl) rfl rfl (by kernel_rfl) ?_
  refine WL.pure (v := vI (xs.length : Int)) 8 rfl (Nat.le_of_ble_eq_true rfl) rfl rfl (by kernel_rfl) ?_
  refine WL.nil ?_
  refine WQ.then ?_
  refine hK4 _ _ _ ?_
  refine WC.seq fun K5 hK5 => ?_
  refine WC.block ?_
  refine WC.loop (fun kk0 ll0 ww0 => ∃ (i : Nat) (j : Nat), ll0 = [(0, .slice px xs.length cap), (1, vI x), (6, vI (xs.length : Int)), (7, vI (i : Int)), (8, vI (j : Int))] ∧ kk0 = j - i ∧ (i ≤ j) ∧ (j ≤ xs.length) ∧ (∀ q, q < i → xs.getD q 0 < x) ∧ (∀ q, j ≤ q → q < xs.length → x ≤ xs.getD q 0) ∧ HP Tr w ww0 []) (xs.length) [(0, .slice px xs.length cap), (1, vI x), (6, vI (xs.length : Int)), (7, vI 0), (8, vI (xs.length : Int))] ⟨rfl, rfl, rfl, rfl, rfl, trivial⟩ ⟨0, xs.length, rfl, rfl, Nat.zero_le _, Nat.le_refl _, (fun q hq => by omega), (fun q h1 h2 => by omega), hH1⟩ ?_
  rintro kk l w7 ⟨i, j, rfl, hkk, hij, hjM, hj2, hj3, hH8⟩ K6 hK6
  refine WC.seq fun K9 hK9 => ?_
  refine WC.seq fun K10 hK10 => ?_
  refine WC.region ?_
  refine WL.pure (v := vI (i : Int)) 13 rfl (Nat.le_of_ble_eq_true rfl) rfl rfl (by kernel_rfl) ?_
  refine WL.pure (v := vI (j : Int)) 14 rfl (Nat.le_of_ble_eq_true rfl) rfl rfl (by kernel_rfl) ?_
  by_cases hlt : (i : Int) < (j : Int)
  ·
    refine WL.pure (v := .bool true) 15 rfl (Nat.le_of_ble_eq_true rfl) rfl rfl (x_lss rfl rfl rfl (dT (hlt))) ?_
    refine WL.nil ?_
    refine WQ.then ?_
    refine hK10 _ _ _ ?_
    refine WC.yes rfl ?_
    refine WC.skip ?_
    refine WQ.then ?_
    refine hK9 _ _ _ ?_
    refine WC.block ?_
    refine WC.seq fun K11 hK11 => ?_
    refine WC.region ?_
    refine WL.pure (v := vI (i : Int)) 16 rfl (Nat.le_of_ble_eq_true rfl) rfl rfl (by kernel_rfl) ?_
    refine WL.pure (v := vI (j : Int)) 17 rfl (Nat.le_of_ble_eq_true rfl) rfl rfl (by kernel_rfl) ?_
    refine WL.pure (v := vI ((i + j : Nat) : Int)) 18 rfl (Nat.le_of_ble_eq_true rfl) rfl rfl (x_add (Z := ((i + j : Nat) : Int)) rfl rfl rfl (by omega) (by omega) (by omega)) ?_
    refine WL.pure (v := .int .u64 ((i + j : Nat) : Int)) 19 rfl (Nat.le_of_ble_eq_true rfl) rfl rfl (x_convI rfl rfl (by kernel_rfl) (by kernel_rfl) (by kernel_rfl) (by rw [IntKind.wrap_u64]; omega)) ?_
    refine WL.pure (v := .int .u64 (((i + j : Nat) : Int) / 2)) 20 rfl (Nat.le_of_ble_eq_true rfl) rfl rfl (x_shr1 rfl rfl rfl (by decide)) ?_
    refine WL.pure (v := vI (((i + j) / 2 : Nat) : Int)) 21 rfl (Nat.le_of_ble_eq_true rfl) rfl rfl (x_convI rfl rfl (by kernel_rfl) (by kernel_rfl) (by kernel_rfl) (by rw [IntKind.wrap_i64]; omega)) ?_
    refine WL.pure (v := vI (((i + j) / 2 : Nat) : Int)) 9 rfl (Nat.le_of_ble_eq_true rfl) rfl rfl (by kernel_rfl) ?_
    refine WL.nil ?_
    refine WQ.then ?_
    refine hK11 _ _ _ ?_
    refine WC.sub (l' := [(0, .slice px xs.length cap), (1, vI x), (6, vI (xs.length : Int)), (7, vI (i : Int)), (8, vI (j : Int)), (9, vI (((i + j) / 2 : Nat) : Int)), (15, .bool true)]) ⟨rfl, rfl, rfl, rfl, rfl, rfl, rfl, trivial⟩ ?_
    refine WC.seq fun K12 hK12 => ?_
    obtain ⟨gx, ox, rfl, hrow⟩ := hI (by omega)
    refine WC.region ?_
    refine WL.pure (v := .slice (some ⟨gx, ox, none⟩) xs.length cap) 22 rfl (Nat.le_of_ble_eq_true rfl) rfl rfl (by kernel_rfl) ?_
    refine WL.pure (v := vI (((i + j) / 2 : Nat) : Int)) 23 rfl (Nat.le_of_ble_eq_true rfl) rfl rfl (by kernel_rfl) ?_
    refine WL.pure (v := vP gx (ox + (i + j) / 2)) 24 rfl (Nat.le_of_ble_eq_true rfl) rfl rfl (x_idx ((i + j) / 2) (ox + (i + j) / 2) rfl rfl rfl Try.underlying23 sz3 (by omega) (by omega) (by omega)) ?_
    refine WL.pure (v := vI (xs.getD ((i + j) / 2) 0)) 25 rfl (Nat.le_of_ble_eq_true rfl) rfl rfl (x_load rfl rfl Try.underlying3 rfl ((HP.oldRange hH8 trivial (hrow ((i + j) / 2) (by omega))) 0 _ rfl)) ?_
    refine WL.pure (v := vI x) 26 rfl (Nat.le_of_ble_eq_true rfl) rfl rfl (by kernel_rfl) ?_
    refine WL.call (f := 50) (args := #[vI (xs.getD ((i + j) / 2) 0), vI x]) 27 rfl (Nat.le_of_ble_eq_true rfl) rfl rfl (by kernel_rfl) ?_
    refine (less_any _ _ _).mono ?_
    rintro e w13 ⟨rfl, rfl⟩
    refine ⟨_, rfl, ?_⟩
    refine WL.nil ?_
    refine WQ.then ?_
    refine hK12 _ _ _ ?_
    rcases Bool.eq_false_or_eq_true (decide (xs.getD ((i + j) / 2) 0 < x)) with hL | hL
    ·
      refine WC.yes (congrArg (fun b => some (Value.bool b)) hL) ?_
      refine WC.region ?_
      refine WL.pure (v := vI (((i + j) / 2 : Nat) : Int)) 28 rfl (Nat.le_of_ble_eq_true rfl) rfl rfl (by kernel_rfl) ?_
      refine WL.pure (v := vI (((i + j) / 2 + 1 : Nat) : Int)) 29 rfl (Nat.le_of_ble_eq_true rfl) rfl rfl (x_add (Z := (((i + j) / 2 + 1 : Nat) : Int)) rfl rfl rfl (by omega) (by omega) (by omega)) ?_
      refine WL.pure (v := vI (((i + j) / 2 + 1 : Nat) : Int)) 7 rfl (Nat.le_of_ble_eq_true rfl) rfl rfl (by kernel_rfl) ?_
      refine WL.nil ?_
      refine WQ.inNormal ?_
      refine WQ.sub (l' := [(0, .slice (some ⟨gx, ox, none⟩) xs.length cap), (1, vI x), (6, vI (xs.length : Int)), (7, vI (((i + j) / 2 + 1 : Nat) : Int)), (8, vI (j : Int))]) ⟨rfl, rfl, rfl, rfl, rfl, trivial⟩ ?_
      refine WQ.then (hK6 _ _ _ (by omega) ⟨(i + j) / 2 + 1, j, rfl, rfl, by omega, by omega, (fun q hq => Int.lt_of_le_of_lt (le_of_sorted hs (show q ≤ (i + j) / 2 by omega) (by omega)) (of_decide_eq_true hL)), hj3, hH8⟩)
    ·
      refine WC.no (congrArg (fun b => some (Value.bool b)) hL) ?_
      refine WC.region ?_
      refine WL.pure (v := vI (((i + j) / 2 : Nat) : Int)) 30 rfl (Nat.le_of_ble_eq_true rfl) rfl rfl (by kernel_rfl) ?_
      refine WL.pure (v := vI (((i + j) / 2 : Nat) : Int)) 8 rfl (Nat.le_of_ble_eq_true rfl) rfl rfl (by kernel_rfl) ?_
      refine WL.nil ?_
      refine WQ.inNormal ?_
      refine WQ.sub (l' := [(0, .slice (some ⟨gx, ox, none⟩) xs.length cap), (1, vI x), (6, vI (xs.length : Int)), (7, vI (i : Int)), (8, vI (((i + j) / 2 : Nat) : Int))]) ⟨rfl, rfl, rfl, rfl, rfl, trivial⟩ ?_
      refine WQ.then (hK6 _ _ _ (by omega) ⟨i, (i + j) / 2, rfl, rfl, by omega, by omega, hj2, (fun q hq1 hq2 => Int.le_trans (Int.not_lt.1 (of_decide_eq_false hL)) (le_of_sorted hs hq1 hq2)), hH8⟩)
  ·
    refine WL.pure (v := .bool false) 15 rfl (Nat.le_of_ble_eq_true rfl) rfl rfl (x_lss rfl rfl rfl (dF (hlt))) ?_
    refine WL.nil ?_
    refine WQ.then ?_
    refine hK10 _ _ _ ?_
    refine WC.no rfl ?_
    refine WC.exit ?_
    refine WQ.thenExit ?_
    refine WQ.thenExit ?_
    refine WQ.inExit ?_
    refine WQ.then ?_
    refine hK5 _ _ _ ?_
    refine WC.seq fun K14 hK14 => ?_
    refine WC.region ?_
    refine WL.pure (v := vI (i : Int)) 31 rfl (Nat.le_of_ble_eq_true rfl) rfl rfl (by kernel_rfl) ?_
    refine WL.pure (v := vI (i : Int)) 32 rfl (Nat.le_of_ble_eq_true rfl) rfl rfl (by kernel_rfl) ?_
    refine WL.pure (v := vI (xs.length : Int)) 33 rfl (Nat.le_of_ble_eq_true rfl) rfl rfl (by kernel_rfl) ?_
    by_cases hi : (i : Int) < (xs.length : Int)
    ·
      refine WL.pure (v := .bool true) 34 rfl (Nat.le_of_ble_eq_true rfl) rfl rfl (x_lss rfl rfl rfl (dT (hi))) ?_
      refine WL.pure (v := .bool true) 35 rfl (Nat.le_of_ble_eq_true rfl) rfl rfl (by kernel_rfl) ?_
      refine WL.pure (v := .slice px xs.length cap) 36 rfl (Nat.le_of_ble_eq_true rfl) rfl rfl (by kernel_rfl) ?_
      refine WL.pure (v := vI (i : Int)) 37 rfl (Nat.le_of_ble_eq_true rfl) rfl rfl (by kernel_rfl) ?_
      obtain ⟨gx, ox, rfl, hrow⟩ := hI (by omega)
      refine WL.pure (v := vP gx (ox + i)) 38 rfl (Nat.le_of_ble_eq_true rfl) rfl rfl (x_idx (i) (ox + i) rfl rfl rfl Try.underlying23 sz3 (by omega) (by omega) (by omega)) ?_
      refine WL.pure (v := vI (xs.getD i 0)) 39 rfl (Nat.le_of_ble_eq_true rfl) rfl rfl (x_load rfl rfl Try.underlying3 rfl ((HP.oldRange hH8 trivial (hrow i (by omega))) 0 _ rfl)) ?_
      refine WL.pure (v := vI x) 40 rfl (Nat.le_of_ble_eq_true rfl) rfl rfl (by kernel_rfl) ?_
      by_cases hq : xs.getD i 0 = x
      ·
        refine WL.pure (v := .bool true) 41 rfl (Nat.le_of_ble_eq_true rfl) rfl rfl (x_eql rfl rfl rfl (dT (hq))) ?_
        refine WL.pure (v := .bool true) 42 rfl (Nat.le_of_ble_eq_true rfl) rfl rfl (by kernel_rfl) ?_
        refine WL.pass 43 rfl (Nat.le_of_ble_eq_true rfl) rfl ?_
        refine WL.pass 44 rfl (Nat.le_of_ble_eq_true rfl) rfl ?_
        refine WL.pass 45 rfl (Nat.le_of_ble_eq_true rfl) rfl ?_
        refine WL.pass 46 rfl (Nat.le_of_ble_eq_true rfl) rfl ?_
        refine WL.pass 47 rfl (Nat.le_of_ble_eq_true rfl) rfl ?_
        refine WL.pass 48 rfl (Nat.le_of_ble_eq_true rfl) rfl ?_
        refine WL.pass 49 rfl (Nat.le_of_ble_eq_true rfl) rfl ?_
        refine WL.pass 50 rfl (Nat.le_of_ble_eq_true rfl) rfl ?_
        refine WL.pass 51 rfl (Nat.le_of_ble_eq_true rfl) rfl ?_
        refine WL.pure (v := .bool true) 52 rfl (Nat.le_of_ble_eq_true rfl) rfl rfl (by kernel_rfl) ?_
        refine WL.pure (v := .bool true) 53 rfl (Nat.le_of_ble_eq_true rfl) rfl rfl (by kernel_rfl) ?_
        refine WL.pure (v := vI (i : Int)) 4 rfl (Nat.le_of_ble_eq_true rfl) rfl rfl (by kernel_rfl) ?_
        refine WL.pure (v := .bool true) 5 rfl (Nat.le_of_ble_eq_true rfl) rfl rfl (by kernel_rfl) ?_
        refine WL.nil ?_
        refine WQ.then ?_
        refine hK14 _ _ _ ?_
        refine WC.sub (l' := [(0, .slice (some ⟨gx, ox, none⟩) xs.length cap), (1, vI x), (4, vI (i : Int)), (5, .bool true), (6, vI (xs.length : Int)), (7, vI (i : Int)), (8, vI (j : Int)), (15, .bool false)]) ⟨rfl, rfl, rfl, rfl, rfl, rfl, rfl, rfl, trivial⟩ ?_
        refine WC.ret ?_
        refine WQ.ret2 4 5 rfl rfl rfl ?_
        have hfin : i = lb xs x := lb_of (by omega) hj2 (fun q h1 h2 => hj3 q (by omega) h2)
        exact ⟨_, by rw [← hfin], HP.below hH8⟩
      ·
        refine WL.pure (v := .bool false) 41 rfl (Nat.le_of_ble_eq_true rfl) rfl rfl (x_eql rfl rfl rfl (dF (hq))) ?_
        refine WL.pure (v := .bool false) 42 rfl (Nat.le_of_ble_eq_true rfl) rfl rfl (by kernel_rfl) ?_
        refine WL.pure (v := .slice (some ⟨gx, ox, none⟩) xs.length cap) 43 rfl (Nat.le_of_ble_eq_true rfl) rfl rfl (by kernel_rfl) ?_
        refine WL.pure (v := vI (i : Int)) 44 rfl (Nat.le_of_ble_eq_true rfl) rfl rfl (by kernel_rfl) ?_
        refine WL.pure (v := vP gx (ox + i)) 45 rfl (Nat.le_of_ble_eq_true rfl) rfl rfl (x_idx (i) (ox + i) rfl rfl rfl Try.underlying23 sz3 (by omega) (by omega) (by omega)) ?_
        refine WL.pure (v := vI (xs.getD i 0)) 46 rfl (Nat.le_of_ble_eq_true rfl) rfl rfl (x_load rfl rfl Try.underlying3 rfl ((HP.oldRange hH8 trivial (hrow i (by omega))) 0 _ rfl)) ?_
        refine WL.call (f := 51) (args := #[vI (xs.getD i 0)]) 47 rfl (Nat.le_of_ble_eq_true rfl) rfl rfl (by kernel_rfl) ?_
        refine (isNaN2_any _ _).mono ?_
        rintro e w15 ⟨rfl, rfl⟩
        refine ⟨_, rfl, ?_⟩
        refine WL.pure (v := .bool false) 48 rfl (Nat.le_of_ble_eq_true rfl) rfl rfl (by kernel_rfl) ?_
        refine WL.pass 49 rfl (Nat.le_of_ble_eq_true rfl) rfl ?_
        refine WL.pass 50 rfl (Nat.le_of_ble_eq_true rfl) rfl ?_
        refine WL.pure (v := .bool false) 51 rfl (Nat.le_of_ble_eq_true rfl) rfl rfl (by kernel_rfl) ?_
        refine WL.pure (v := .bool false) 52 rfl (Nat.le_of_ble_eq_true rfl) rfl rfl (by kernel_rfl) ?_
        refine WL.pure (v := .bool false) 53 rfl (Nat.le_of_ble_eq_true rfl) rfl rfl (by kernel_rfl) ?_
        refine WL.pure (v := vI (i : Int)) 4 rfl (Nat.le_of_ble_eq_true rfl) rfl rfl (by kernel_rfl) ?_
        refine WL.pure (v := .bool false) 5 rfl (Nat.le_of_ble_eq_true rfl) rfl rfl (by kernel_rfl) ?_
        refine WL.nil ?_
        refine WQ.then ?_
        refine hK14 _ _ _ ?_
        refine WC.sub (l' := [(0, .slice (some ⟨gx, ox, none⟩) xs.length cap), (1, vI x), (4, vI (i : Int)), (5, .bool false), (6, vI (xs.length : Int)), (7, vI (i : Int)), (8, vI (j : Int)), (15, .bool false)]) ⟨rfl, rfl, rfl, rfl, rfl, rfl, rfl, rfl, trivial⟩ ?_
        refine WC.ret ?_
        refine WQ.ret2 4 5 rfl rfl rfl ?_
        have hfin : i = lb xs x := lb_of (by omega) hj2 (fun q h1 h2 => hj3 q (by omega) h2)
        exact ⟨_, by rw [← hfin], HP.below hH8⟩
    ·
      refine WL.pure (v := .bool false) 34 rfl (Nat.le_of_ble_eq_true rfl) rfl rfl (x_lss rfl rfl rfl (dF (hi))) ?_
      refine WL.pure (v := .bool false) 35 rfl (Nat.le_of_ble_eq_true rfl) rfl rfl (by kernel_rfl) ?_
      refine WL.pass 36 rfl (Nat.le_of_ble_eq_true rfl) rfl ?_
      refine WL.pass 37 rfl (Nat.le_of_ble_eq_true rfl) rfl ?_
      refine WL.pass 38 rfl (Nat.le_of_ble_eq_true rfl) rfl ?_
      refine WL.pass 39 rfl (Nat.le_of_ble_eq_true rfl) rfl ?_
      refine WL.pass 40 rfl (Nat.le_of_ble_eq_true rfl) rfl ?_
      refine WL.pass 41 rfl (Nat.le_of_ble_eq_true rfl) rfl ?_
      refine WL.pass 42 rfl (Nat.le_of_ble_eq_true rfl) rfl ?_
      refine WL.pass 43 rfl (Nat.le_of_ble_eq_true rfl) rfl ?_
      refine WL.pass 44 rfl (Nat.le_of_ble_eq_true rfl) rfl ?_
      refine WL.pass 45 rfl (Nat.le_of_ble_eq_true rfl) rfl ?_
      refine WL.pass 46 rfl (Nat.le_of_ble_eq_true rfl) rfl ?_
      refine WL.pass 47 rfl (Nat.le_of_ble_eq_true rfl) rfl ?_
      refine WL.pass 48 rfl (Nat.le_of_ble_eq_true rfl) rfl ?_
      refine WL.pass 49 rfl (Nat.le_of_ble_eq_true rfl) rfl ?_
      refine WL.pass 50 rfl (Nat.le_of_ble_eq_true rfl) rfl ?_
      refine WL.pass 51 rfl (Nat.le_of_ble_eq_true rfl) rfl ?_
      refine WL.pass 52 rfl (Nat.le_of_ble_eq_true rfl) rfl ?_
      refine WL.pure (v := .bool false) 53 rfl (Nat.le_of_ble_eq_true rfl) rfl rfl (by kernel_rfl) ?_
      refine WL.pure (v := vI (i : Int)) 4 rfl (Nat.le_of_ble_eq_true rfl) rfl rfl (by kernel_rfl) ?_
      refine WL.pure (v := .bool false) 5 rfl (Nat.le_of_ble_eq_true rfl) rfl rfl (by kernel_rfl) ?_
      refine WL.nil ?_
      refine WQ.then ?_
      refine hK14 _ _ _ ?_
      refine WC.sub (l' := [(0, .slice px xs.length cap), (1, vI x), (4, vI (i : Int)), (5, .bool false), (6, vI (xs.length : Int)), (7, vI (i : Int)), (8, vI (j : Int)), (15, .bool false)]) ⟨rfl, rfl, rfl, rfl, rfl, rfl, rfl, rfl, trivial⟩ ?_
      refine WC.ret ?_
      refine WQ.ret2 4 5 rfl rfl rfl ?_
      have hfin : i = lb xs x := lb_of (by omega) hj2 (fun q h1 h2 => hj3 q (by omega) h2)
      exact ⟨_, by rw [← hfin], HP.below hH8⟩
set_option maxRecDepth 20000 in
set_option maxHeartbeats 4000000 in
theorem before_any (W : Wh) (l : List Int) (m : Nat) (x : Int) (w : World) (hW : WhOk w W l) (hm : m < 4) (hx0 : 0 ≤ x) (hx1 : x ≤ 10000000) :
    Calls Try.prog 39 #[.agg #[.slice (W.p 0) (W.n 0) (W.c 0), .slice (W.p 1) (W.n 1) (W.c 1), .slice (W.p 2) (W.n 2) (W.c 2), .slice (W.p 3) (W.n 3) (W.c 3), .slice (W.p 4) (W.n 4) (W.c 4)], vI (m : Int), vI x] w fun e w' => e = .returned (.int .i64 (befV (l.length : Int) (posI l m) x)) ∧ Below w.heap.size w w' := by
  refine calls_of Try.func39 rfl (m := 32) rfl [(0, .agg #[.slice (W.p 0) (W.n 0) (W.c 0), .slice (W.p 1) (W.n 1) (W.c 1), .slice (W.p 2) (W.n 2) (W.c 2), .slice (W.p 3) (W.n 3) (W.c 3), .slice (W.p 4) (W.n 4) (W.c 4)]), (1, vI (m : Int)), (2, vI x)] (Fr_enter [.agg #[.slice (W.p 0) (W.n 0) (W.c 0), .slice (W.p 1) (W.n 1) (W.c 1), .slice (W.p 2) (W.n 2) (W.c 2), .slice (W.p 3) (W.n 3) (W.c 3), .slice (W.p 4) (W.n 4) (W.c 4)], vI (m : Int), vI x] 32 (Nat.le_of_ble_eq_true rfl)) ?_
  have hH1 : HP Tr w w [] := HP.refl w
  refine WC.seq fun K2 hK2 => ?_
  refine WC.region ?_
  refine WL.alloc (c := #[.slice (W.p 0) (W.n 0) (W.c 0), .slice (W.p 1) (W.n 1) (W.c 1), .slice (W.p 2) (W.n 2) (W.c 2), .slice (W.p 3) (W.n 3) (W.c 3), .slice (W.p 4) (W.n 4) (W.c 4)]) (T := 55) hH1 3 rfl (by decide) rfl rfl (fun b3 => vP b3 0) (by kernel_rfl) (fun b3 w3 hw3 => ?_)
  have hH4 : HP Tr w w3 [.cel b3 #[.slice (W.p 0) (W.n 0) (W.c 0), .slice (W.p 1) (W.n 1) (W.c 1), .slice (W.p 2) (W.n 2) (W.c 2), .slice (W.p 3) (W.n 3) (W.c 3), .slice (W.p 4) (W.n 4) (W.c 4)] 55] := hw3.2
  have nb3 := hw3.1
  clear hw3
  refine WL.pure (v := vI 0) 6 rfl (Nat.le_of_ble_eq_true rfl) rfl rfl (by kernel_rfl) ?_
  refine WL.nil ?_
  refine WQ.then ?_
  refine hK2 _ _ _ ?_
  refine WC.seq fun K5 hK5 => ?_
  have hln := hW.len m hm
  have hl0 := hW.own
  have hl1 := hW.l1
  have hl4 := hW.l4
  have hpl := posI_len l (m : Int)
  refine WC.region ?_
  refine WL.pure (v := vI (m : Int)) 10 rfl (Nat.le_of_ble_eq_true rfl) rfl rfl (by kernel_rfl) ?_
  refine WL.pure (v := vP b3 1) 11 rfl (Nat.le_of_ble_eq_true rfl) rfl rfl (by kernel_rfl) ?_
  refine WL.pure (v := vP b3 (1 + m)) 12 rfl (Nat.le_of_ble_eq_true rfl) rfl rfl (x_idxArr (m) (1 + m) rfl rfl rfl Try.underlying53 sz23 (by omega) (by omega) (by omega)) ?_
  refine WL.pure (v := .slice (W.p (m + 1)) (W.n (m + 1)) (W.c (m + 1))) 13 rfl (Nat.le_of_ble_eq_true rfl) rfl rfl (x_load rfl rfl Try.underlying23 rfl (HP.cell hH4 0 rfl (wh_get W hm))) ?_
  refine WL.pure (v := .slice (W.p (m + 1)) (W.n (m + 1)) (W.c (m + 1))) 7 rfl (Nat.le_of_ble_eq_true rfl) rfl rfl (by kernel_rfl) ?_
  refine WL.nil ?_
  refine WQ.then ?_
  refine hK5 _ _ _ ?_
  refine WC.seq fun K6 hK6 => ?_
  rw [hln]
  refine WC.region ?_
  refine WL.pure (v := .slice (W.p (m + 1)) ((posI l m).length) (W.c (m + 1))) 15 rfl (Nat.le_of_ble_eq_true rfl) rfl rfl (by kernel_rfl) ?_
  refine WL.pure (v := vI x) 16 rfl (Nat.le_of_ble_eq_true rfl) rfl rfl (by kernel_rfl) ?_
  refine WL.pure (v := .agg #[.slice (W.p 0) (W.n 0) (W.c 0), .slice (W.p 1) (W.n 1) (W.c 1), .slice (W.p 2) (W.n 2) (W.c 2), .slice (W.p 3) (W.n 3) (W.c 3), .slice (W.p 4) (W.n 4) (W.c 4)]) 17 rfl (Nat.le_of_ble_eq_true rfl) rfl rfl (x_loadS (cs := [.slice (W.p 0) (W.n 0) (W.c 0), .slice (W.p 1) (W.n 1) (W.c 1), .slice (W.p 2) (W.n 2) (W.c 2), .slice (W.p 3) (W.n 3) (W.c 3), .slice (W.p 4) (W.n 4) (W.c 4)]) rfl rfl Try.underlying55 rfl sz55 (HP.range hH4 0 rfl rfl)) ?_
  refine WL.call (f := 20) (args := #[.agg #[.slice (W.p 0) (W.n 0) (W.c 0), .slice (W.p 1) (W.n 1) (W.c 1), .slice (W.p 2) (W.n 2) (W.c 2), .slice (W.p 3) (W.n 3) (W.c 3), .slice (W.p 4) (W.n 4) (W.c 4)]]) 18 rfl (Nat.le_of_ble_eq_true rfl) rfl rfl (by kernel_rfl) ?_
  refine (period_any W _).mono ?_
  rintro e w7 ⟨rfl, hb8⟩
  refine ⟨_, rfl, ?_⟩
  have hH9 : HP Tr w _ [.cel b3 #[.slice (W.p 0) (W.n 0) (W.c 0), .slice (W.p 1) (W.n 1) (W.c 1), .slice (W.p 2) (W.n 2) (W.c 2), .slice (W.p 3) (W.n 3) (W.c 3), .slice (W.p 4) (W.n 4) (W.c 4)] 55] := HP.call hH4 hb8
  refine WL.pure (v := vI (x % (l.length : Int))) 19 rfl (Nat.le_of_ble_eq_true rfl) rfl rfl (x_rem (Z := x % (l.length : Int)) rfl rfl rfl (by omega) (by rw [hl0]; exact tmod_pos (by omega))) ?_
  refine WL.call (f := 47) (args := #[.slice (W.p (m + 1)) ((posI l m).length) (W.c (m + 1)), vI (x % (l.length : Int))]) 20 rfl (Nat.le_of_ble_eq_true rfl) rfl rfl (by kernel_rfl) ?_
  refine (search_any (W.p (m + 1)) (W.c (m + 1)) (posI l m) _ _ ((hW.row m hm).below (HP.below hH9)) (posI_sorted l m) (by omega)).mono ?_
  rintro e w10 ⟨fb, rfl, hb11⟩
  refine ⟨_, rfl, ?_⟩
  have hH12 : HP Tr w _ [.cel b3 #[.slice (W.p 0) (W.n 0) (W.c 0), .slice (W.p 1) (W.n 1) (W.c 1), .slice (W.p 2) (W.n 2) (W.c 2), .slice (W.p 3) (W.n 3) (W.c 3), .slice (W.p 4) (W.n 4) (W.c 4)] 55] := HP.call hH9 hb11
  refine WL.pure (v := .tuple #[vI (lb (posI l m) (x % (l.length : Int)) : Int), .bool fb]) 14 rfl (Nat.le_of_ble_eq_true rfl) rfl rfl (by kernel_rfl) ?_
  refine WL.pure (v := vI (lb (posI l m) (x % (l.length : Int)) : Int)) 21 rfl (Nat.le_of_ble_eq_true rfl) rfl rfl (by kernel_rfl) ?_
  refine WL.pure (v := .bool fb) 22 rfl (Nat.le_of_ble_eq_true rfl) rfl rfl (by kernel_rfl) ?_
  refine WL.pure (v := vI (lb (posI l m) (x % (l.length : Int)) : Int)) 8 rfl (Nat.le_of_ble_eq_true rfl) rfl rfl (by kernel_rfl) ?_
  refine WL.pure (v := .bool fb) 9 rfl (Nat.le_of_ble_eq_true rfl) rfl rfl (by kernel_rfl) ?_
  refine WL.nil ?_
  refine WQ.then ?_
  refine hK6 _ _ _ ?_
  refine WC.sub (l' := [(0, .agg #[.slice (W.p 0) (W.n 0) (W.c 0), .slice (W.p 1) (W.n 1) (W.c 1), .slice (W.p 2) (W.n 2) (W.c 2), .slice (W.p 3) (W.n 3) (W.c 3), .slice (W.p 4) (W.n 4) (W.c 4)]), (1, vI (m : Int)), (2, vI x), (3, vP b3 0), (6, vI 0), (7, .slice (W.p (m + 1)) ((posI l m).length) (W.c (m + 1))), (8, vI (lb (posI l m) (x % (l.length : Int)) : Int))]) ⟨rfl, rfl, rfl, rfl, rfl, rfl, rfl, trivial⟩ ?_
  refine WC.seq fun K13 hK13 => ?_
  have hlb := lb_le (posI l m) (x % (l.length : Int))
  obtain ⟨d1, d2⟩ := divB hx0 hx1 (show (1 : Int) ≤ (l.length : Int) by omega)
  obtain ⟨e1, e2⟩ := mulB d1 d2 (show (0 : Int) ≤ ((posI l m).length : Int) by omega) (show ((posI l m).length : Int) ≤ 400 by omega)
  refine WC.region ?_
  refine WL.pure (v := vI x) 23 rfl (Nat.le_of_ble_eq_true rfl) rfl rfl (by kernel_rfl) ?_
  refine WL.pure (v := .agg #[.slice (W.p 0) (W.n 0) (W.c 0), .slice (W.p 1) (W.n 1) (W.c 1), .slice (W.p 2) (W.n 2) (W.c 2), .slice (W.p 3) (W.n 3) (W.c 3), .slice (W.p 4) (W.n 4) (W.c 4)]) 24 rfl (Nat.le_of_ble_eq_true rfl) rfl rfl (x_loadS (cs := [.slice (W.p 0) (W.n 0) (W.c 0), .slice (W.p 1) (W.n 1) (W.c 1), .slice (W.p 2) (W.n 2) (W.c 2), .slice (W.p 3) (W.n 3) (W.c 3), .slice (W.p 4) (W.n 4) (W.c 4)]) rfl rfl Try.underlying55 rfl sz55 (HP.range hH12 0 rfl rfl)) ?_
  refine WL.call (f := 20) (args := #[.agg #[.slice (W.p 0) (W.n 0) (W.c 0), .slice (W.p 1) (W.n 1) (W.c 1), .slice (W.p 2) (W.n 2) (W.c 2), .slice (W.p 3) (W.n 3) (W.c 3), .slice (W.p 4) (W.n 4) (W.c 4)]]) 25 rfl (Nat.le_of_ble_eq_true rfl) rfl rfl (by kernel_rfl) ?_
  refine (period_any W _).mono ?_
  rintro e w14 ⟨rfl, hb15⟩
  refine ⟨_, rfl, ?_⟩
  have hH16 : HP Tr w _ [.cel b3 #[.slice (W.p 0) (W.n 0) (W.c 0), .slice (W.p 1) (W.n 1) (W.c 1), .slice (W.p 2) (W.n 2) (W.c 2), .slice (W.p 3) (W.n 3) (W.c 3), .slice (W.p 4) (W.n 4) (W.c 4)] 55] := HP.call hH12 hb15
  refine WL.pure (v := vI (x / (l.length : Int))) 26 rfl (Nat.le_of_ble_eq_true rfl) rfl rfl (x_quo (Z := x / (l.length : Int)) rfl rfl rfl (by omega) (by rw [hl0]; exact tdiv_pos (by omega) (by omega)) (by omega) (by omega)) ?_
  refine WL.pure (v := .slice (W.p (m + 1)) ((posI l m).length) (W.c (m + 1))) 27 rfl (Nat.le_of_ble_eq_true rfl) rfl rfl (by kernel_rfl) ?_
  refine WL.pure (v := vI (((posI l m).length : Nat) : Int)) 28 rfl (Nat.le_of_ble_eq_true rfl) rfl rfl (by kernel_rfl) ?_
  refine WL.pure (v := vI (x / (l.length : Int) * ((posI l m).length : Int))) 29 rfl (Nat.le_of_ble_eq_true rfl) rfl rfl (x_mul (Z := x / (l.length : Int) * ((posI l m).length : Int)) rfl rfl rfl (by omega) (by omega) (by omega)) ?_
  refine WL.pure (v := vI (lb (posI l m) (x % (l.length : Int)) : Int)) 30 rfl (Nat.le_of_ble_eq_true rfl) rfl rfl (by kernel_rfl) ?_
  refine WL.pure (v := vI (befV (l.length : Int) (posI l m) x)) 31 rfl (Nat.le_of_ble_eq_true rfl) rfl rfl (x_add (Z := befV (l.length : Int) (posI l m) x) rfl rfl rfl (rfl) (by unfold befV; omega) (by unfold befV; omega)) ?_
  refine WL.pure (v := vI (befV (l.length : Int) (posI l m) x)) 6 rfl (Nat.le_of_ble_eq_true rfl) rfl rfl (by kernel_rfl) ?_
  refine WL.nil ?_
  refine WQ.then ?_
  refine hK13 _ _ _ ?_
  refine WC.sub (l' := [(0, .agg #[.slice (W.p 0) (W.n 0) (W.c 0), .slice (W.p 1) (W.n 1) (W.c 1), .slice (W.p 2) (W.n 2) (W.c 2), .slice (W.p 3) (W.n 3) (W.c 3), .slice (W.p 4) (W.n 4) (W.c 4)]), (1, vI (m : Int)), (2, vI x), (3, vP b3 0), (6, vI (befV (l.length : Int) (posI l m) x)), (7, .slice (W.p (m + 1)) ((posI l m).length) (W.c (m + 1))), (8, vI (lb (posI l m) (x % (l.length : Int)) : Int))]) ⟨rfl, rfl, rfl, rfl, rfl, rfl, rfl, trivial⟩ ?_
  refine WC.ret ?_
  refine WQ.ret1 6 rfl rfl ?_
  exact ⟨rfl, HP.below hH16⟩
set_option maxRecDepth 20000 in
set_option maxHeartbeats 4000000 in
theorem end_any (W : Wh) (l : List Int) (m : Nat) (x : Int) (n : Int) (w : World) (hW : WhOk w W l) (hm : m < 4) (hx0 : 0 ≤ x) (hx1 : x ≤ 10000000) (hn0 : 1 ≤ n) (hn1 : n ≤ 100) (hL : 0 < (posI l m).length) :
    Calls Try.prog 21 #[.agg #[.slice (W.p 0) (W.n 0) (W.c 0), .slice (W.p 1) (W.n 1) (W.c 1), .slice (W.p 2) (W.n 2) (W.c 2), .slice (W.p 3) (W.n 3) (W.c 3), .slice (W.p 4) (W.n 4) (W.c 4)], vI (m : Int), vI x, vI n] w fun e w' => e = .returned (.int .i64 (endV (l.length : Int) (posI l m) x n)) ∧ Below w.heap.size w w' := by
  refine calls_of Try.func21 rfl (m := 38) rfl [(0, .agg #[.slice (W.p 0) (W.n 0) (W.c 0), .slice (W.p 1) (W.n 1) (W.c 1), .slice (W.p 2) (W.n 2) (W.c 2), .slice (W.p 3) (W.n 3) (W.c 3), .slice (W.p 4) (W.n 4) (W.c 4)]), (1, vI (m : Int)), (2, vI x), (3, vI n)] (Fr_enter [.agg #[.slice (W.p 0) (W.n 0) (W.c 0), .slice (W.p 1) (W.n 1) (W.c 1), .slice (W.p 2) (W.n 2) (W.c 2), .slice (W.p 3) (W.n 3) (W.c 3), .slice (W.p 4) (W.n 4) (W.c 4)], vI (m : Int), vI x, vI n] 38 (Nat.le_of_ble_eq_true rfl)) ?_
  have hH1 : HP Tr w w [] := HP.refl w
  refine WC.seq fun K2 hK2 => ?_
  refine WC.region ?_
  refine WL.alloc (c := #[.slice (W.p 0) (W.n 0) (W.c 0), .slice (W.p 1) (W.n 1) (W.c 1), .slice (W.p 2) (W.n 2) (W.c 2), .slice (W.p 3) (W.n 3) (W.c 3), .slice (W.p 4) (W.n 4) (W.c 4)]) (T := 55) hH1 4 rfl (by decide) rfl rfl (fun b4 => vP b4 0) (by kernel_rfl) (fun b4 w3 hw3 => ?_)
  have hH4 : HP Tr w w3 [.cel b4 #[.slice (W.p 0) (W.n 0) (W.c 0), .slice (W.p 1) (W.n 1) (W.c 1), .slice (W.p 2) (W.n 2) (W.c 2), .slice (W.p 3) (W.n 3) (W.c 3), .slice (W.p 4) (W.n 4) (W.c 4)] 55] := hw3.2
  have nb4 := hw3.1
  clear hw3
  refine WL.pure (v := vI 0) 8 rfl (Nat.le_of_ble_eq_true rfl) rfl rfl (by kernel_rfl) ?_
  refine WL.nil ?_
  refine WQ.then ?_
  refine hK2 _ _ _ ?_
  refine WC.seq fun K5 hK5 => ?_
  have hln := hW.len m hm
  have hl0 := hW.own
  have hl1 := hW.l1
  have hl4 := hW.l4
  have hpl := posI_len l (m : Int)
  refine WC.region ?_
  refine WL.pure (v := vI (m : Int)) 11 rfl (Nat.le_of_ble_eq_true rfl) rfl rfl (by kernel_rfl) ?_
  refine WL.pure (v := vP b4 1) 12 rfl (Nat.le_of_ble_eq_true rfl) rfl rfl (by kernel_rfl) ?_
  refine WL.pure (v := vP b4 (1 + m)) 13 rfl (Nat.le_of_ble_eq_true rfl) rfl rfl (x_idxArr (m) (1 + m) rfl rfl rfl Try.underlying53 sz23 (by omega) (by omega) (by omega)) ?_
  refine WL.pure (v := .slice (W.p (m + 1)) (W.n (m + 1)) (W.c (m + 1))) 14 rfl (Nat.le_of_ble_eq_true rfl) rfl rfl (x_load rfl rfl Try.underlying23 rfl (HP.cell hH4 0 rfl (wh_get W hm))) ?_
  refine WL.pure (v := .slice (W.p (m + 1)) (W.n (m + 1)) (W.c (m + 1))) 9 rfl (Nat.le_of_ble_eq_true rfl) rfl rfl (by kernel_rfl) ?_
  refine WL.nil ?_
  refine WQ.then ?_
  refine hK5 _ _ _ ?_
  refine WC.seq fun K6 hK6 => ?_
  rw [hln]
  have hbb := bef_bd (F := (l.length : Int)) (xs := posI l m) (x := x) (by omega) (by omega) hx0 hx1
  refine WC.region ?_
  refine WL.pure (v := .agg #[.slice (W.p 0) (W.n 0) (W.c 0), .slice (W.p 1) (W.n 1) (W.c 1), .slice (W.p 2) (W.n 2) (W.c 2), .slice (W.p 3) (W.n 3) (W.c 3), .slice (W.p 4) (W.n 4) (W.c 4)]) 15 rfl (Nat.le_of_ble_eq_true rfl) rfl rfl (x_loadS (cs := [.slice (W.p 0) (W.n 0) (W.c 0), .slice (W.p 1) (W.n 1) (W.c 1), .slice (W.p 2) (W.n 2) (W.c 2), .slice (W.p 3) (W.n 3) (W.c 3), .slice (W.p 4) (W.n 4) (W.c 4)]) rfl rfl Try.underlying55 rfl sz55 (HP.range hH4 0 rfl rfl)) ?_
  refine WL.pure (v := vI (m : Int)) 16 rfl (Nat.le_of_ble_eq_true rfl) rfl rfl (by kernel_rfl) ?_
  refine WL.pure (v := vI x) 17 rfl (Nat.le_of_ble_eq_true rfl) rfl rfl (by kernel_rfl) ?_
  refine WL.call (f := 39) (args := #[.agg #[.slice (W.p 0) (W.n 0) (W.c 0), .slice (W.p 1) (W.n 1) (W.c 1), .slice (W.p 2) (W.n 2) (W.c 2), .slice (W.p 3) (W.n 3) (W.c 3), .slice (W.p 4) (W.n 4) (W.c 4)], vI (m : Int), vI x]) 18 rfl (Nat.le_of_ble_eq_true rfl) rfl rfl (by kernel_rfl) ?_
  refine (before_any W l m x _ (hW.below (HP.below hH4)) hm hx0 hx1).mono ?_
  rintro e w7 ⟨rfl, hb8⟩
  refine ⟨_, rfl, ?_⟩
  have hH9 : HP Tr w _ [.cel b4 #[.slice (W.p 0) (W.n 0) (W.c 0), .slice (W.p 1) (W.n 1) (W.c 1), .slice (W.p 2) (W.n 2) (W.c 2), .slice (W.p 3) (W.n 3) (W.c 3), .slice (W.p 4) (W.n 4) (W.c 4)] 55] := HP.call hH4 hb8
  refine WL.pure (v := vI n) 19 rfl (Nat.le_of_ble_eq_true rfl) rfl rfl (by kernel_rfl) ?_
  refine WL.pure (v := vI (befV (l.length : Int) (posI l m) x + n)) 20 rfl (Nat.le_of_ble_eq_true rfl) rfl rfl (x_add (Z := befV (l.length : Int) (posI l m) x + n) rfl rfl rfl (by omega) (by omega) (by omega)) ?_
  refine WL.pure (v := vI (befV (l.length : Int) (posI l m) x + n - 1)) 21 rfl (Nat.le_of_ble_eq_true rfl) rfl rfl (x_sub (Z := befV (l.length : Int) (posI l m) x + n - 1) rfl rfl rfl (by omega) (by omega) (by omega)) ?_
  refine WL.pure (v := vI (befV (l.length : Int) (posI l m) x + n - 1)) 10 rfl (Nat.le_of_ble_eq_true rfl) rfl rfl (by kernel_rfl) ?_
  refine WL.nil ?_
  refine WQ.then ?_
  refine hK6 _ _ _ ?_
  refine WC.sub (l' := [(0, .agg #[.slice (W.p 0) (W.n 0) (W.c 0), .slice (W.p 1) (W.n 1) (W.c 1), .slice (W.p 2) (W.n 2) (W.c 2), .slice (W.p 3) (W.n 3) (W.c 3), .slice (W.p 4) (W.n 4) (W.c 4)]), (1, vI (m : Int)), (2, vI x), (3, vI n), (4, vP b4 0), (8, vI 0), (9, .slice (W.p (m + 1)) ((posI l m).length) (W.c (m + 1))), (10, vI (befV (l.length : Int) (posI l m) x + n - 1))]) ⟨rfl, rfl, rfl, rfl, rfl, rfl, rfl, rfl, trivial⟩ ?_
  refine WC.seq fun K10 hK10 => ?_
  obtain ⟨L0, hL0⟩ : ∃ L0 : Int, L0 = befV (l.length : Int) (posI l m) x + n - 1 := ⟨_, rfl⟩
  rw [← hL0]
  obtain ⟨d1, d2⟩ := divB (m := L0) (F := ((posI l m).length : Int)) (A := 4000000500) (by omega) (by omega) (by omega)
  obtain ⟨e1, e2⟩ := mulB d1 d2 (show (0 : Int) ≤ (l.length : Int) by omega) (show (l.length : Int) ≤ 400 by omega)
  have hm2 := Int.emod_nonneg L0 (show ((posI l m).length : Int) ≠ 0 by omega)
  have hm3 := Int.emod_lt_of_pos L0 (show (0 : Int) < ((posI l m).length : Int) by omega)
  obtain ⟨r, hrr⟩ : ∃ r : Nat, L0 % ((posI l m).length : Int) = (r : Int) := ⟨(L0 % ((posI l m).length : Int)).toNat, by omega⟩
  have hrt : r < (posI l m).length := by omega
  have hxb := xs_bd hrt
  obtain ⟨gx, ox, hpx, hrow⟩ := hW.row m hm (by omega)
  rw [hpx]
  refine WC.confG (γ := Unit) [(0, .agg #[.slice (W.p 0) (W.n 0) (W.c 0), .slice (W.p 1) (W.n 1) (W.c 1), .slice (W.p 2) (W.n 2) (W.c 2), .slice (W.p 3) (W.n 3) (W.c 3), .slice (W.p 4) (W.n 4) (W.c 4)]), (1, vI (m : Int)), (2, vI x), (3, vI n), (4, vP b4 0), (9, .slice (some ⟨gx, ox, none⟩) ((posI l m).length) (W.c (m + 1))), (10, vI L0)] (fun gy => [vI L0, .slice (some ⟨gx, ox, none⟩) ((posI l m).length) (W.c (m + 1)), vI (((posI l m).length : Nat) : Int), vI (L0 / ((posI l m).length : Int)), .agg #[.slice (W.p 0) (W.n 0) (W.c 0), .slice (W.p 1) (W.n 1) (W.c 1), .slice (W.p 2) (W.n 2) (W.c 2), .slice (W.p 3) (W.n 3) (W.c 3), .slice (W.p 4) (W.n 4) (W.c 4)], vI (W.n 0 : Int), vI (L0 / ((posI l m).length : Int) * (l.length : Int)), .slice (some ⟨gx, ox, none⟩) ((posI l m).length) (W.c (m + 1)), vI L0, .slice (some ⟨gx, ox, none⟩) ((posI l m).length) (W.c (m + 1)), vI (((posI l m).length : Nat) : Int), vI (r : Int), vP gx (ox + r), vI ((posI l m).getD r 0), vI (L0 / ((posI l m).length : Int) * (l.length : Int) + (posI l m).getD r 0), vI (L0 / ((posI l m).length : Int) * (l.length : Int) + (posI l m).getD r 0 + 1), vI (L0 / ((posI l m).length : Int) * (l.length : Int) + (posI l m).getD r 0 + 1)]) (fun gy D wz => HP Tr w wz [.cel b4 #[.slice (W.p 0) (W.n 0) (W.c 0), .slice (W.p 1) (W.n 1) (W.c 1), .slice (W.p 2) (W.n 2) (W.c 2), .slice (W.p 3) (W.n 3) (W.c 3), .slice (W.p 4) (W.n 4) (W.c 4)] 55]) () (by kernel_rfl) ⟨rfl, rfl, rfl, rfl, rfl, rfl, rfl, trivial⟩ (by kernel_rfl) (by kernel_rfl) (by kernel_rfl) (fun _ => rfl) (by kernel_rfl) (HP.drew hH9) ?_ ?_
  · refine AllOk.cons ?o0 (AllOk.cons ?o1 (AllOk.cons ?o2 (AllOk.cons ?o3 (AllOk.cons ?o4 (AllOk.cons ?o5 (AllOk.cons ?o6 (AllOk.cons ?o7 (AllOk.cons ?o8 (AllOk.cons ?o9 (AllOk.cons ?o10 (AllOk.cons ?o11 (AllOk.cons ?o12 (AllOk.cons ?o13 (AllOk.cons ?o14 (AllOk.cons ?o15 (AllOk.cons ?o16 (AllOk.nil _)))))))))))))))))
    case o0 =>
      intro gy D wz hDi hdep hclo hW
      exact .inl ⟨rfl, rfl, .inl ⟨gy, wz, fun _ _ => rfl, by kernel_rfl, hW⟩⟩
    case o1 =>
      intro gy D wz hDi hdep hclo hW
      exact .inl ⟨rfl, rfl, .inl ⟨gy, wz, fun _ _ => rfl, by kernel_rfl, hW⟩⟩
    case o2 =>
      intro gy D wz hDi hdep hclo hW
      exact .inl ⟨rfl, rfl, .inl ⟨gy, wz, fun _ _ => rfl, by kernel_rfl, hW⟩⟩
    case o3 =>
      intro gy D wz hDi hdep hclo hW
      exact .inl ⟨rfl, rfl, .inl ⟨gy, wz, fun _ _ => rfl, x_quo (Z := L0 / ((posI l m).length : Int)) rfl rfl rfl (by omega) (tdiv_pos (by omega) (by omega)) (by omega) (by omega), hW⟩⟩
    case o4 =>
      intro gy D wz hDi hdep hclo hW
      exact .inl ⟨rfl, rfl, .inl ⟨gy, wz, fun _ _ => rfl, x_loadS (cs := [.slice (W.p 0) (W.n 0) (W.c 0), .slice (W.p 1) (W.n 1) (W.c 1), .slice (W.p 2) (W.n 2) (W.c 2), .slice (W.p 3) (W.n 3) (W.c 3), .slice (W.p 4) (W.n 4) (W.c 4)]) rfl rfl Try.underlying55 rfl sz55 (HP.range hW 0 rfl rfl), hW⟩⟩
    case o5 =>
      intro gy D wz hDi hdep hclo hW
      have hW2 := hW
      exact .inl ⟨rfl, rfl, .inr (.inr ⟨20, #[.agg #[.slice (W.p 0) (W.n 0) (W.c 0), .slice (W.p 1) (W.n 1) (W.c 1), .slice (W.p 2) (W.n 2) (W.c 2), .slice (W.p 3) (W.n 3) (W.c 3), .slice (W.p 4) (W.n 4) (W.c 4)]], by kernel_rfl, (period_any W _).mono fun e w2 h => ⟨gy, fun _ _ => rfl, h.1, HP.call hW h.2⟩⟩)⟩
    case o6 =>
      intro gy D wz hDi hdep hclo hW
      exact .inl ⟨rfl, rfl, .inl ⟨gy, wz, fun _ _ => rfl, x_mul (Z := L0 / ((posI l m).length : Int) * (l.length : Int)) rfl rfl rfl (by rw [hl0]) (by omega) (by omega), hW⟩⟩
    case o7 =>
      intro gy D wz hDi hdep hclo hW
      exact .inl ⟨rfl, rfl, .inl ⟨gy, wz, fun _ _ => rfl, by kernel_rfl, hW⟩⟩
    case o8 =>
      intro gy D wz hDi hdep hclo hW
      exact .inl ⟨rfl, rfl, .inl ⟨gy, wz, fun _ _ => rfl, by kernel_rfl, hW⟩⟩
    case o9 =>
      intro gy D wz hDi hdep hclo hW
      exact .inl ⟨rfl, rfl, .inl ⟨gy, wz, fun _ _ => rfl, by kernel_rfl, hW⟩⟩
    case o10 =>
      intro gy D wz hDi hdep hclo hW
      exact .inl ⟨rfl, rfl, .inl ⟨gy, wz, fun _ _ => rfl, by kernel_rfl, hW⟩⟩
    case o11 =>
      intro gy D wz hDi hdep hclo hW
      exact .inl ⟨rfl, rfl, .inl ⟨gy, wz, fun _ _ => rfl, x_rem (Z := (r : Int)) rfl rfl rfl (by omega) (by rw [tmod_pos (by omega)]; exact hrr), hW⟩⟩
    case o12 =>
      intro gy D wz hDi hdep hclo hW
      exact .inl ⟨rfl, rfl, .inl ⟨gy, wz, fun _ _ => rfl, x_idx (r) (ox + r) rfl rfl rfl Try.underlying23 sz3 (by omega) (by omega) (by omega), hW⟩⟩
    case o13 =>
      intro gy D wz hDi hdep hclo hW
      exact .inl ⟨rfl, rfl, .inl ⟨gy, wz, fun _ _ => rfl, x_load rfl rfl Try.underlying3 rfl ((HP.oldRange hW trivial (hrow r (by omega))) 0 _ rfl), hW⟩⟩
    case o14 =>
      intro gy D wz hDi hdep hclo hW
      exact .inl ⟨rfl, rfl, .inl ⟨gy, wz, fun _ _ => rfl, x_add (Z := L0 / ((posI l m).length : Int) * (l.length : Int) + (posI l m).getD r 0) rfl rfl rfl (by omega) (by omega) (by omega), hW⟩⟩
    case o15 =>
      intro gy D wz hDi hdep hclo hW
      exact .inl ⟨rfl, rfl, .inl ⟨gy, wz, fun _ _ => rfl, x_add (Z := L0 / ((posI l m).length : Int) * (l.length : Int) + (posI l m).getD r 0 + 1) rfl rfl rfl (by omega) (by omega) (by omega), hW⟩⟩
    case o16 =>
      intro gy D wz hDi hdep hclo hW
      exact .inl ⟨rfl, rfl, .inl ⟨gy, wz, fun _ _ => rfl, by kernel_rfl, hW⟩⟩
  rintro gy D w11 hall hH12
  clear hall
  refine WQ.sub (l' := [(0, .agg #[.slice (W.p 0) (W.n 0) (W.c 0), .slice (W.p 1) (W.n 1) (W.c 1), .slice (W.p 2) (W.n 2) (W.c 2), .slice (W.p 3) (W.n 3) (W.c 3), .slice (W.p 4) (W.n 4) (W.c 4)]), (1, vI (m : Int)), (2, vI x), (3, vI n), (4, vP b4 0), (8, vI (L0 / ((posI l m).length : Int) * (l.length : Int) + (posI l m).getD r 0 + 1)), (9, .slice (some ⟨gx, ox, none⟩) ((posI l m).length) (W.c (m + 1))), (10, vI L0)]) ⟨rfl, rfl, rfl, rfl, rfl, rfl, rfl, rfl, trivial⟩ ?_
  refine WQ.then ?_
  refine hK10 _ _ _ ?_
  refine WC.ret ?_
  refine WQ.ret1 8 rfl rfl ?_
  have hev : endV (l.length : Int) (posI l m) x n = L0 / ((posI l m).length : Int) * (l.length : Int) + (posI l m).getD r 0 + 1 := by unfold endV; rw [← hL0, hrr, Int.toNat_natCast]
  exact ⟨by rw [hev], HP.below hH12⟩
end Bs
end Go.Proofs.Yteckbfebemofmaa
