/- Requests; the worst delay. -/
import Derived.Test.YteckbfebemofmaaBD
set_option linter.unusedVariables false
set_option linter.unusedSimpArgs false
namespace Go.Proofs.Yteckbfebemofmaa
open Go.RowKit Fw
namespace Bs
def okT (t : Int) : Bool := decide (0 ≤ t) && decide (t ≤ 10000)
def okN (n : Int) : Bool := decide (1 ≤ n) && decide (n ≤ 100)
def okR (m t n : Int) : Bool := okM m && (okT t && okN n)
theorem okR_iff {m t n : Int} : okR m t n = true ↔ (0 ≤ m ∧ m < 4) ∧ (0 ≤ t ∧ t ≤ 10000) ∧ 1 ≤ n ∧ n ≤ 100 := by simp [okR, okM, okT, okN]
theorem isMaster_at {n : Int} {r : Bool} (h : okM n = r) (w : World) : Calls Try.prog 37 #[vI n] w fun e w' => e = .returned (.bool r) ∧ w = w' := h ▸ isMaster_any n w
theorem okT_at {n : Int} {r : Bool} (h : okT n = r) (w : World) : Calls Try.prog 38 #[vI n, vI 10000] w fun e w' => e = .returned (.bool r) ∧ w = w' := h ▸ bwithin_any n 10000 w
theorem bvalid_at {o sp : Nat → Int} {N : Nat} {r : Bool} (h : okL o sp N = r) (p : Option Addr) (cap : Nat) (w : World) (hS : InS w p N o sp) (hN : N ≤ 1000) : Calls Try.prog 17 #[.slice p N cap] w fun e w' => e = .returned (.bool r) ∧ Below w.heap.size w w' := h ▸ bvalid_any p N cap o sp w hS hN
set_option maxRecDepth 20000 in
set_option maxHeartbeats 4000000 in
theorem isReq_any (m t n : Int) (w : World) :
    Calls Try.prog 18 #[.agg #[vI m, vI t, vI n]] w fun e w' => e = .returned (.bool (okR m t n)) ∧ Below w.heap.size w w' := by
  refine calls_of Try.func18 rfl (m := 21) rfl [(0, .agg #[vI m, vI t, vI n])] (Fr_enter [.agg #[vI m, vI t, vI n]] 21 (Nat.le_of_ble_eq_true rfl)) ?_
  have hH1 : HP Tr w w [] := HP.refl w
  refine WC.seq fun K2 hK2 => ?_
  refine WC.region ?_
  refine WL.alloc (c := #[vI m, vI t, vI n]) (T := 30) hH1 1 rfl (by decide) rfl rfl (fun b1 => vP b1 0) (by kernel_rfl) (fun b1 w3 hw3 => ?_)
  have hH4 : HP Tr w w3 [.cel b1 #[vI m, vI t, vI n] 30] := hw3.2
  have nb1 := hw3.1
  clear hw3
  refine WL.pure (v := .bool false) 2 rfl (Nat.le_of_ble_eq_true rfl) rfl rfl (by kernel_rfl) ?_
  refine WL.nil ?_
  refine WQ.then ?_
  refine hK2 _ _ _ ?_
  refine WC.seq fun K5 hK5 => ?_
  refine WC.region ?_
  refine WL.pure (v := vP b1 0) 3 rfl (Nat.le_of_ble_eq_true rfl) rfl rfl (by kernel_rfl) ?_
  refine WL.pure (v := vI m) 4 rfl (Nat.le_of_ble_eq_true rfl) rfl rfl (x_load rfl rfl Try.underlying3 rfl (HP.cell hH4 0 rfl rfl)) ?_
  rcases Bool.eq_false_or_eq_true (okM m) with hm9 | hm9
  ·
    refine WL.call (f := 37) (args := #[vI m]) 5 rfl (Nat.le_of_ble_eq_true rfl) rfl rfl (by kernel_rfl) ?_
    refine (isMaster_at hm9 _).mono ?_
    rintro e w6 ⟨rfl, rfl⟩
    refine ⟨_, rfl, ?_⟩
    refine WL.pure (v := .bool true) 6 rfl (Nat.le_of_ble_eq_true rfl) rfl rfl (by kernel_rfl) ?_
    refine WL.pure (v := vP b1 1) 7 rfl (Nat.le_of_ble_eq_true rfl) rfl rfl (by kernel_rfl) ?_
    refine WL.pure (v := vI t) 8 rfl (Nat.le_of_ble_eq_true rfl) rfl rfl (x_load rfl rfl Try.underlying3 rfl (HP.cell hH4 0 rfl rfl)) ?_
    rcases Bool.eq_false_or_eq_true (okT t) with ht9 | ht9
    ·
      refine WL.call (f := 38) (args := #[vI t, vI 10000]) 9 rfl (Nat.le_of_ble_eq_true rfl) rfl rfl (by kernel_rfl) ?_
      refine (okT_at ht9 _).mono ?_
      rintro e w7 ⟨rfl, rfl⟩
      refine ⟨_, rfl, ?_⟩
      refine WL.pure (v := .bool true) 10 rfl (Nat.le_of_ble_eq_true rfl) rfl rfl (by kernel_rfl) ?_
      refine WL.pure (v := .bool true) 11 rfl (Nat.le_of_ble_eq_true rfl) rfl rfl (by kernel_rfl) ?_
      refine WL.pure (v := vP b1 2) 12 rfl (Nat.le_of_ble_eq_true rfl) rfl rfl (by kernel_rfl) ?_
      refine WL.pure (v := vI n) 13 rfl (Nat.le_of_ble_eq_true rfl) rfl rfl (x_load rfl rfl Try.underlying3 rfl (HP.cell hH4 0 rfl rfl)) ?_
      by_cases h14 : (1 : Int) ≤ n
      ·
        refine WL.pure (v := .bool true) 14 rfl (Nat.le_of_ble_eq_true rfl) rfl rfl (x_geq rfl rfl rfl (dT (h14))) ?_
        refine WL.pure (v := .bool true) 15 rfl (Nat.le_of_ble_eq_true rfl) rfl rfl (by kernel_rfl) ?_
        refine WL.pure (v := .bool true) 16 rfl (Nat.le_of_ble_eq_true rfl) rfl rfl (by kernel_rfl) ?_
        refine WL.pure (v := vP b1 2) 17 rfl (Nat.le_of_ble_eq_true rfl) rfl rfl (by kernel_rfl) ?_
        refine WL.pure (v := vI n) 18 rfl (Nat.le_of_ble_eq_true rfl) rfl rfl (x_load rfl rfl Try.underlying3 rfl (HP.cell hH4 0 rfl rfl)) ?_
        by_cases h19 : n ≤ 100
        ·
          refine WL.pure (v := .bool true) 19 rfl (Nat.le_of_ble_eq_true rfl) rfl rfl (x_leq rfl rfl rfl (dT (h19))) ?_
          refine WL.pure (v := .bool true) 20 rfl (Nat.le_of_ble_eq_true rfl) rfl rfl (by kernel_rfl) ?_
          refine WL.pure (v := .bool true) 2 rfl (Nat.le_of_ble_eq_true rfl) rfl rfl (by kernel_rfl) ?_
          refine WL.nil ?_
          refine WQ.then ?_
          refine hK5 _ _ _ ?_
          refine WC.sub (l' := [(0, .agg #[vI m, vI t, vI n]), (1, vP b1 0), (2, .bool true)]) ⟨rfl, rfl, rfl, trivial⟩ ?_
          refine WC.ret ?_
          refine WQ.ret1 2 rfl rfl ?_
          exact ⟨by rw [show okR m t n = true by unfold okR; rw [hm9, ht9]; unfold okN; simp; omega], HP.below hH4⟩
        ·
          refine WL.pure (v := .bool false) 19 rfl (Nat.le_of_ble_eq_true rfl) rfl rfl (x_leq rfl rfl rfl (dF (h19))) ?_
          refine WL.pure (v := .bool false) 20 rfl (Nat.le_of_ble_eq_true rfl) rfl rfl (by kernel_rfl) ?_
          refine WL.pure (v := .bool false) 2 rfl (Nat.le_of_ble_eq_true rfl) rfl rfl (by kernel_rfl) ?_
          refine WL.nil ?_
          refine WQ.then ?_
          refine hK5 _ _ _ ?_
          refine WC.sub (l' := [(0, .agg #[vI m, vI t, vI n]), (1, vP b1 0), (2, .bool false)]) ⟨rfl, rfl, rfl, trivial⟩ ?_
          refine WC.ret ?_
          refine WQ.ret1 2 rfl rfl ?_
          exact ⟨by rw [show okR m t n = false by unfold okR; rw [hm9, ht9]; unfold okN; simp; omega], HP.below hH4⟩
      ·
        refine WL.pure (v := .bool false) 14 rfl (Nat.le_of_ble_eq_true rfl) rfl rfl (x_geq rfl rfl rfl (dF (h14))) ?_
        refine WL.pure (v := .bool false) 15 rfl (Nat.le_of_ble_eq_true rfl) rfl rfl (by kernel_rfl) ?_
        refine WL.pure (v := .bool false) 16 rfl (Nat.le_of_ble_eq_true rfl) rfl rfl (by kernel_rfl) ?_
        refine WL.pass 17 rfl (Nat.le_of_ble_eq_true rfl) rfl ?_
        refine WL.pass 18 rfl (Nat.le_of_ble_eq_true rfl) rfl ?_
        refine WL.pass 19 rfl (Nat.le_of_ble_eq_true rfl) rfl ?_
        refine WL.pure (v := .bool false) 20 rfl (Nat.le_of_ble_eq_true rfl) rfl rfl (by kernel_rfl) ?_
        refine WL.pure (v := .bool false) 2 rfl (Nat.le_of_ble_eq_true rfl) rfl rfl (by kernel_rfl) ?_
        refine WL.nil ?_
        refine WQ.then ?_
        refine hK5 _ _ _ ?_
        refine WC.sub (l' := [(0, .agg #[vI m, vI t, vI n]), (1, vP b1 0), (2, .bool false)]) ⟨rfl, rfl, rfl, trivial⟩ ?_
        refine WC.ret ?_
        refine WQ.ret1 2 rfl rfl ?_
        exact ⟨by rw [show okR m t n = false by unfold okR; rw [hm9, ht9]; unfold okN; simp; omega], HP.below hH4⟩
    ·
      refine WL.call (f := 38) (args := #[vI t, vI 10000]) 9 rfl (Nat.le_of_ble_eq_true rfl) rfl rfl (by kernel_rfl) ?_
      refine (okT_at ht9 _).mono ?_
      rintro e w8 ⟨rfl, rfl⟩
      refine ⟨_, rfl, ?_⟩
      refine WL.pure (v := .bool false) 10 rfl (Nat.le_of_ble_eq_true rfl) rfl rfl (by kernel_rfl) ?_
      refine WL.pure (v := .bool false) 11 rfl (Nat.le_of_ble_eq_true rfl) rfl rfl (by kernel_rfl) ?_
      refine WL.pass 12 rfl (Nat.le_of_ble_eq_true rfl) rfl ?_
      refine WL.pass 13 rfl (Nat.le_of_ble_eq_true rfl) rfl ?_
      refine WL.pass 14 rfl (Nat.le_of_ble_eq_true rfl) rfl ?_
      refine WL.pure (v := .bool false) 15 rfl (Nat.le_of_ble_eq_true rfl) rfl rfl (by kernel_rfl) ?_
      refine WL.pure (v := .bool false) 16 rfl (Nat.le_of_ble_eq_true rfl) rfl rfl (by kernel_rfl) ?_
      refine WL.pass 17 rfl (Nat.le_of_ble_eq_true rfl) rfl ?_
      refine WL.pass 18 rfl (Nat.le_of_ble_eq_true rfl) rfl ?_
      refine WL.pass 19 rfl (Nat.le_of_ble_eq_true rfl) rfl ?_
      refine WL.pure (v := .bool false) 20 rfl (Nat.le_of_ble_eq_true rfl) rfl rfl (by kernel_rfl) ?_
      refine WL.pure (v := .bool false) 2 rfl (Nat.le_of_ble_eq_true rfl) rfl rfl (by kernel_rfl) ?_
      refine WL.nil ?_
      refine WQ.then ?_
      refine hK5 _ _ _ ?_
      refine WC.sub (l' := [(0, .agg #[vI m, vI t, vI n]), (1, vP b1 0), (2, .bool false)]) ⟨rfl, rfl, rfl, trivial⟩ ?_
      refine WC.ret ?_
      refine WQ.ret1 2 rfl rfl ?_
      exact ⟨by rw [show okR m t n = false by unfold okR; rw [hm9, ht9]; rfl], HP.below hH4⟩
  ·
    refine WL.call (f := 37) (args := #[vI m]) 5 rfl (Nat.le_of_ble_eq_true rfl) rfl rfl (by kernel_rfl) ?_
    refine (isMaster_at hm9 _).mono ?_
    rintro e w9 ⟨rfl, rfl⟩
    refine ⟨_, rfl, ?_⟩
    refine WL.pure (v := .bool false) 6 rfl (Nat.le_of_ble_eq_true rfl) rfl rfl (by kernel_rfl) ?_
    refine WL.pass 7 rfl (Nat.le_of_ble_eq_true rfl) rfl ?_
    refine WL.pass 8 rfl (Nat.le_of_ble_eq_true rfl) rfl ?_
    refine WL.pass 9 rfl (Nat.le_of_ble_eq_true rfl) rfl ?_
    refine WL.pure (v := .bool false) 10 rfl (Nat.le_of_ble_eq_true rfl) rfl rfl (by kernel_rfl) ?_
    refine WL.pure (v := .bool false) 11 rfl (Nat.le_of_ble_eq_true rfl) rfl rfl (by kernel_rfl) ?_
    refine WL.pass 12 rfl (Nat.le_of_ble_eq_true rfl) rfl ?_
    refine WL.pass 13 rfl (Nat.le_of_ble_eq_true rfl) rfl ?_
    refine WL.pass 14 rfl (Nat.le_of_ble_eq_true rfl) rfl ?_
    refine WL.pure (v := .bool false) 15 rfl (Nat.le_of_ble_eq_true rfl) rfl rfl (by kernel_rfl) ?_
    refine WL.pure (v := .bool false) 16 rfl (Nat.le_of_ble_eq_true rfl) rfl rfl (by kernel_rfl) ?_
    refine WL.pass 17 rfl (Nat.le_of_ble_eq_true rfl) rfl ?_
    refine WL.pass 18 rfl (Nat.le_of_ble_eq_true rfl) rfl ?_
    refine WL.pass 19 rfl (Nat.le_of_ble_eq_true rfl) rfl ?_
    refine WL.pure (v := .bool false) 20 rfl (Nat.le_of_ble_eq_true rfl) rfl rfl (by kernel_rfl) ?_
    refine WL.pure (v := .bool false) 2 rfl (Nat.le_of_ble_eq_true rfl) rfl rfl (by kernel_rfl) ?_
    refine WL.nil ?_
    refine WQ.then ?_
    refine hK5 _ _ _ ?_
    refine WC.sub (l' := [(0, .agg #[vI m, vI t, vI n]), (1, vP b1 0), (2, .bool false)]) ⟨rfl, rfl, rfl, trivial⟩ ?_
    refine WC.ret ?_
    refine WQ.ret1 2 rfl rfl ?_
    exact ⟨by rw [show okR m t n = false by unfold okR; rw [hm9]; rfl], HP.below hH4⟩
theorem isReq_at {m t n : Int} {r : Bool} (h : okR m t n = r) (w : World) : Calls Try.prog 18 #[.agg #[vI m, vI t, vI n]] w fun e w' => e = .returned (.bool r) ∧ Below w.heap.size w w' := h ▸ isReq_any m t n w
/-- the worst delay of a master's requests -/
structure WorstOk (o sp : Nat → Int) (N : Nat) (m n d : Int) : Prop where
  okl : okL o sp N = true
  okr : okR m 0 n = true
  has : 0 < (posI (owl o sp N) m).length
  all : ∀ k : Nat, k < (owl o sp N).length → endV ((owl o sp N).length : Int) (posI (owl o sp N) m) (k : Int) n - (k : Int) ≤ d
  d1 : 1 ≤ d
  d2 : d ≤ 1610000000000
def FarR (o sp : Nat → Int) (N : Nat) (m n : Int) (w : World) (e : Ending) (w' : World) : Prop :=
  ∃ d mm er : Int, e = .returned (.tuple #[vI d, vI mm, vI er]) ∧ ((er ≠ 0 ∧ d = 0) ∨ (er = 0 ∧ WorstOk o sp N m n d)) ∧ Below w.heap.size w w'
theorem far_first {g : Nat → Int} {k : Nat} (h : k = 0) (h1 : 1 ≤ g k - (k : Int)) (h2 : g k - (k : Int) ≤ 1610000000000) : 0 < k + 1 ∧ (∀ j, j < k + 1 → g j - (j : Int) ≤ g k - (k : Int)) ∧ 1 ≤ g k - (k : Int) ∧ g k - (k : Int) ≤ 1610000000000 :=
  ⟨by omega, fun j hj => by
    have e : j = k := by omega
    rw [e]; exact Int.le_refl _, h1, h2⟩
theorem far_more {g : Nat → Int} {k : Nat} {d : Int} (h : (k = 0 ∧ d = 0) ∨ (0 < k ∧ (∀ j, j < k → g j - (j : Int) ≤ d) ∧ 1 ≤ d ∧ d ≤ 1610000000000)) (hk : 0 < k) (hlt : d < g k - (k : Int)) (h2 : g k - (k : Int) ≤ 1610000000000) : (k + 1 = 0 ∧ g k - (k : Int) = 0) ∨ (0 < k + 1 ∧ (∀ j, j < k + 1 → g j - (j : Int) ≤ g k - (k : Int)) ∧ 1 ≤ g k - (k : Int) ∧ g k - (k : Int) ≤ 1610000000000) := by
  rcases h with ⟨h, -⟩ | ⟨h3, h4, h5, h6⟩
  · omega
  · refine .inr ⟨by omega, fun j hj => ?_, by omega, h2⟩
    by_cases e : j = k
    · subst e; exact Int.le_refl _
    · have := h4 j (by omega); omega
theorem far_keep {g : Nat → Int} {k : Nat} {d : Int} (h : (k = 0 ∧ d = 0) ∨ (0 < k ∧ (∀ j, j < k → g j - (j : Int) ≤ d) ∧ 1 ≤ d ∧ d ≤ 1610000000000)) (hk : 0 < k) (hlt : ¬ d < g k - (k : Int)) : (k + 1 = 0 ∧ d = 0) ∨ (0 < k + 1 ∧ (∀ j, j < k + 1 → g j - (j : Int) ≤ d) ∧ 1 ≤ d ∧ d ≤ 1610000000000) := by
  rcases h with ⟨h, -⟩ | ⟨h3, h4, h5, h6⟩
  · omega
  · refine .inr ⟨by omega, fun j hj => ?_, h5, h6⟩
    by_cases e : j = k
    · subst e; omega
    · exact h4 j (by omega)
set_option maxRecDepth 20000 in
set_option maxHeartbeats 4000000 in
theorem far_any (p : Option Addr) (N cap : Nat) (o sp : Nat → Int) (m n : Int) (w : World) (hS : InS w p N o sp) (hN : N ≤ 1000) :
    Calls Try.prog 8 #[.slice p N cap, vI m, vI n, .func (.func 9) #[] #[]] w (FarR o sp N m n w) := by
  refine calls_of Try.func8 rfl (m := 57) rfl [(0, .slice p N cap), (1, vI m), (2, vI n), (3, .func (.func 9) #[] #[])] (Fr_enter [.slice p N cap, vI m, vI n, .func (.func 9) #[] #[]] 57 (Nat.le_of_ble_eq_true rfl)) ?_
  have hH1 : HP Tr w w [] := HP.refl w
  refine WC.seq fun K2 hK2 => ?_
  refine WC.region ?_
  refine WL.pure (v := vI 0) 8 rfl (Nat.le_of_ble_eq_true rfl) rfl rfl (by kernel_rfl) ?_
  refine WL.pure (v := vI 0) 9 rfl (Nat.le_of_ble_eq_true rfl) rfl rfl (by kernel_rfl) ?_
  refine WL.pure (v := vI 0) 10 rfl (Nat.le_of_ble_eq_true rfl) rfl rfl (by kernel_rfl) ?_
  refine WL.nil ?_
  refine WQ.then ?_
  refine hK2 _ _ _ ?_
  refine WC.seq fun K3 hK3 => ?_
  refine WC.seq fun K4 hK4 => ?_
  refine WC.region ?_
  refine WL.pure (v := .slice p N cap) 14 rfl (Nat.le_of_ble_eq_true rfl) rfl rfl (by kernel_rfl) ?_
  rcases Bool.eq_false_or_eq_true (okL o sp N) with hl9 | hl9
  ·
    refine WL.call (f := 17) (args := #[.slice p N cap]) 15 rfl (Nat.le_of_ble_eq_true rfl) rfl rfl (by kernel_rfl) ?_
    refine (bvalid_at hl9 p cap _ (hS.below (HP.below hH1)) hN).mono ?_
    rintro e w5 ⟨rfl, hb6⟩
    refine ⟨_, rfl, ?_⟩
    have hH7 : HP Tr w _ [] := HP.call hH1 hb6
    refine WL.pure (v := .bool false) 16 rfl (Nat.le_of_ble_eq_true rfl) rfl rfl (by kernel_rfl) ?_
    refine WL.pure (v := .bool false) 17 rfl (Nat.le_of_ble_eq_true rfl) rfl rfl (by kernel_rfl) ?_
    refine WL.pure (v := vI m) 18 rfl (Nat.le_of_ble_eq_true rfl) rfl rfl (by kernel_rfl) ?_
    refine WL.pure (v := vI n) 19 rfl (Nat.le_of_ble_eq_true rfl) rfl rfl (by kernel_rfl) ?_
    refine WL.pure (v := .agg #[vI m, vI 0, vI n]) 20 rfl (Nat.le_of_ble_eq_true rfl) rfl rfl (by kernel_rfl) ?_
    rcases Bool.eq_false_or_eq_true (okR m 0 n) with hr9 | hr9
    ·
      refine WL.call (f := 18) (args := #[.agg #[vI m, vI 0, vI n]]) 21 rfl (Nat.le_of_ble_eq_true rfl) rfl rfl (by kernel_rfl) ?_
      refine (isReq_at hr9 _).mono ?_
      rintro e w8 ⟨rfl, hb9⟩
      refine ⟨_, rfl, ?_⟩
      have hH10 : HP Tr w _ [] := HP.call hH7 hb9
      refine WL.pure (v := .bool false) 22 rfl (Nat.le_of_ble_eq_true rfl) rfl rfl (by kernel_rfl) ?_
      refine WL.pure (v := .bool false) 23 rfl (Nat.le_of_ble_eq_true rfl) rfl rfl (by kernel_rfl) ?_
      refine WL.nil ?_
      refine WQ.then ?_
      refine hK4 _ _ _ ?_
      refine WC.sub (l' := [(0, .slice p N cap), (1, vI m), (2, vI n), (3, .func (.func 9) #[] #[]), (8, vI 0), (9, vI 0), (10, vI 0), (23, .bool false)]) ⟨rfl, rfl, rfl, rfl, rfl, rfl, rfl, rfl, trivial⟩ ?_
      refine WC.no rfl ?_
      refine WC.skip ?_
      refine WQ.then ?_
      refine hK3 _ _ _ ?_
      refine WC.seq fun K11 hK11 => ?_
      have hokl := okL_iff.1 hl9
      refine WC.region ?_
      refine WL.pure (v := .slice p N cap) 24 rfl (Nat.le_of_ble_eq_true rfl) rfl rfl (by kernel_rfl) ?_
      refine WL.call (f := 19) (args := #[.slice p N cap]) 25 rfl (Nat.le_of_ble_eq_true rfl) rfl rfl (by kernel_rfl) ?_
      refine (turning_any p N cap o sp _ (hS.below (HP.below hH10)) hokl).mono ?_
      rintro e wt ⟨W, rfl, hW, hbt⟩
      refine ⟨_, rfl, ?_⟩
      have hHt := HP.call hH10 hbt
      have hH12 : HP Tr wt wt [] := HP.refl wt
      refine WL.alloc (c := #[.slice none 0 0, .slice none 0 0, .slice none 0 0, .slice none 0 0, .slice none 0 0]) (T := 55) hH12 11 rfl (by decide) rfl rfl (fun b11 => vP b11 0) (by kernel_rfl) (fun b11 w13 hw13 => ?_)
      have hH14 : HP Tr wt w13 [.cel b11 #[.slice none 0 0, .slice none 0 0, .slice none 0 0, .slice none 0 0, .slice none 0 0] 55] := hw13.2
      have nb11 := hw13.1
      clear hw13
      refine WL.storeS (H2 := [.cel b11 #[.slice (W.p 0) (W.n 0) (W.c 0), .slice (W.p 1) (W.n 1) (W.c 1), .slice (W.p 2) (W.n 2) (W.c 2), .slice (W.p 3) (W.n 3) (W.c 3), .slice (W.p 4) (W.n 4) (W.c 4)] 55]) 0 hH14 rfl rfl rfl rfl rfl rfl sz55 rfl (Nat.le_of_ble_eq_true rfl) rfl rfl ?_
      intro w15 hH16
      refine WL.nil ?_
      refine WQ.then ?_
      refine hK11 _ _ _ ?_
      refine WC.seq fun K17 hK17 => ?_
      refine WC.seq fun K18 hK18 => ?_
      obtain ⟨⟨hm1, hm2⟩, -, hn1, hn2⟩ := okR_iff.1 hr9
      obtain ⟨mn, rfl⟩ : ∃ mn : Nat, m = (mn : Int) := ⟨m.toNat, by omega⟩
      have hm : mn < 4 := by omega
      have hl0 := hW.own
      have hl1 := hW.l1
      have hl4 := hW.l4
      have hln := hW.len mn hm
      refine WC.region ?_
      refine WL.pure (v := vI (mn : Int)) 26 rfl (Nat.le_of_ble_eq_true rfl) rfl rfl (by kernel_rfl) ?_
      refine WL.pure (v := vP b11 1) 27 rfl (Nat.le_of_ble_eq_true rfl) rfl rfl (by kernel_rfl) ?_
      refine WL.pure (v := vP b11 (1 + mn)) 28 rfl (Nat.le_of_ble_eq_true rfl) rfl rfl (x_idxArr (mn) (1 + mn) rfl rfl rfl Try.underlying53 sz23 (by omega) (by omega) (by omega)) ?_
      refine WL.pure (v := .slice (W.p (mn + 1)) (W.n (mn + 1)) (W.c (mn + 1))) 29 rfl (Nat.le_of_ble_eq_true rfl) rfl rfl (x_load rfl rfl Try.underlying23 rfl (HP.cell hH16 0 rfl (wh_get W hm))) ?_
      refine WL.pure (v := vI (((W.n (mn + 1)) : Nat) : Int)) 30 rfl (Nat.le_of_ble_eq_true rfl) rfl rfl (by kernel_rfl) ?_
      by_cases h31 : (((W.n (mn + 1)) : Nat) : Int) = 0
      ·
        refine WL.pure (v := .bool true) 31 rfl (Nat.le_of_ble_eq_true rfl) rfl rfl (x_eql rfl rfl rfl (dT (h31))) ?_
        refine WL.nil ?_
        refine WQ.then ?_
        refine hK18 _ _ _ ?_
        refine WC.sub (l' := [(0, .slice p N cap), (1, vI (mn : Int)), (2, vI n), (3, .func (.func 9) #[] #[]), (8, vI 0), (9, vI 0), (10, vI 0), (11, vP b11 0), (23, .bool false), (31, .bool true)]) ⟨rfl, rfl, rfl, rfl, rfl, rfl, rfl, rfl, rfl, rfl, trivial⟩ ?_
        refine WC.yes rfl ?_
        refine WC.seq fun K19 hK19 => ?_
        refine WC.region ?_
        refine WL.pure (v := vI 0) 8 rfl (Nat.le_of_ble_eq_true rfl) rfl rfl (by kernel_rfl) ?_
        refine WL.pure (v := vI 0) 9 rfl (Nat.le_of_ble_eq_true rfl) rfl rfl (by kernel_rfl) ?_
        refine WL.pure (v := vI 3) 10 rfl (Nat.le_of_ble_eq_true rfl) rfl rfl (by kernel_rfl) ?_
        refine WL.nil ?_
        refine WQ.then ?_
        refine hK19 _ _ _ ?_
        refine WC.ret ?_
        refine WQ.thenRet ?_
        refine WQ.ret3 8 9 10 rfl rfl rfl rfl ?_
        exact ⟨0, 0, 3, rfl, .inl ⟨by decide, rfl⟩, (HP.below (HP.call hHt (HP.below hH16)))⟩
      ·
        refine WL.pure (v := .bool false) 31 rfl (Nat.le_of_ble_eq_true rfl) rfl rfl (x_eql rfl rfl rfl (dF (h31))) ?_
        refine WL.nil ?_
        refine WQ.then ?_
        refine hK18 _ _ _ ?_
        refine WC.sub (l' := [(0, .slice p N cap), (1, vI (mn : Int)), (2, vI n), (3, .func (.func 9) #[] #[]), (8, vI 0), (9, vI 0), (10, vI 0), (11, vP b11 0), (23, .bool false), (31, .bool false)]) ⟨rfl, rfl, rfl, rfl, rfl, rfl, rfl, rfl, rfl, rfl, trivial⟩ ?_
        refine WC.no rfl ?_
        refine WC.skip ?_
        refine WQ.then ?_
        refine hK17 _ _ _ ?_
        refine WC.seq fun K20 hK20 => ?_
        refine WC.seq fun K21 hK21 => ?_
        have hL : 0 < (posI (owl o sp N) (mn : Int)).length := by omega
        refine WC.region ?_
        refine WL.pure (v := .agg #[.slice (W.p 0) (W.n 0) (W.c 0), .slice (W.p 1) (W.n 1) (W.c 1), .slice (W.p 2) (W.n 2) (W.c 2), .slice (W.p 3) (W.n 3) (W.c 3), .slice (W.p 4) (W.n 4) (W.c 4)]) 32 rfl (Nat.le_of_ble_eq_true rfl) rfl rfl (x_loadS (cs := [.slice (W.p 0) (W.n 0) (W.c 0), .slice (W.p 1) (W.n 1) (W.c 1), .slice (W.p 2) (W.n 2) (W.c 2), .slice (W.p 3) (W.n 3) (W.c 3), .slice (W.p 4) (W.n 4) (W.c 4)]) rfl rfl Try.underlying55 rfl sz55 (HP.range hH16 0 rfl rfl)) ?_
        refine WL.call (f := 20) (args := #[.agg #[.slice (W.p 0) (W.n 0) (W.c 0), .slice (W.p 1) (W.n 1) (W.c 1), .slice (W.p 2) (W.n 2) (W.c 2), .slice (W.p 3) (W.n 3) (W.c 3), .slice (W.p 4) (W.n 4) (W.c 4)]]) 33 rfl (Nat.le_of_ble_eq_true rfl) rfl rfl (by kernel_rfl) ?_
        refine (period_any W _).mono ?_
        rintro e w22 ⟨rfl, hb23⟩
        refine ⟨_, rfl, ?_⟩
        have hH24 : HP Tr wt _ [.cel b11 #[.slice (W.p 0) (W.n 0) (W.c 0), .slice (W.p 1) (W.n 1) (W.c 1), .slice (W.p 2) (W.n 2) (W.c 2), .slice (W.p 3) (W.n 3) (W.c 3), .slice (W.p 4) (W.n 4) (W.c 4)] 55] := HP.call hH16 hb23
        refine WL.pure (v := vI 0) 34 rfl (Nat.le_of_ble_eq_true rfl) rfl rfl (by kernel_rfl) ?_
        refine WL.nil ?_
        refine WQ.then ?_
        refine hK21 _ _ _ ?_
        refine WC.block ?_
        refine WC.loop (fun kk0 ll0 ww0 => ∃ (k : Nat) (d : Int) (mm : Int), ll0 = [(1, vI (mn : Int)), (2, vI n), (3, .func (.func 9) #[] #[]), (8, vI d), (9, vI mm), (11, vP b11 0), (33, vI (W.n 0 : Int)), (34, vI (k : Int))] ∧ kk0 = (owl o sp N).length - k ∧ (k ≤ (owl o sp N).length) ∧ ((k = 0 ∧ d = 0) ∨ (0 < k ∧ (∀ j, j < k → (fun j : Nat => endV ((owl o sp N).length : Int) (posI (owl o sp N) (mn : Int)) (j : Int) n) j - (j : Int) ≤ d) ∧ 1 ≤ d ∧ d ≤ 1610000000000)) ∧ HP Tr wt ww0 [.cel b11 #[.slice (W.p 0) (W.n 0) (W.c 0), .slice (W.p 1) (W.n 1) (W.c 1), .slice (W.p 2) (W.n 2) (W.c 2), .slice (W.p 3) (W.n 3) (W.c 3), .slice (W.p 4) (W.n 4) (W.c 4)] 55]) ((owl o sp N).length) [(1, vI (mn : Int)), (2, vI n), (3, .func (.func 9) #[] #[]), (8, vI 0), (9, vI 0), (11, vP b11 0), (33, vI (W.n 0 : Int)), (34, vI 0)] ⟨rfl, rfl, rfl, rfl, rfl, rfl, rfl, rfl, trivial⟩ ⟨0, 0, 0, rfl, rfl, Nat.zero_le _, .inl ⟨rfl, rfl⟩, hH24⟩ ?_
        rintro kk l w26 ⟨k, d, mm, rfl, hkk, hk, hd, hH27⟩ K25 hK25
        refine WC.seq fun K28 hK28 => ?_
        refine WC.region ?_
        by_cases hlt : (k : Int) < (W.n 0 : Int)
        ·
          refine WL.pure (v := .bool true) 35 rfl (Nat.le_of_ble_eq_true rfl) rfl rfl (x_lss rfl rfl rfl (dT (hlt))) ?_
          refine WL.nil ?_
          refine WQ.then ?_
          refine hK28 _ _ _ ?_
          refine WC.seq fun K29 hK29 => ?_
          refine WC.yes rfl ?_
          refine WC.skip ?_
          refine WQ.then ?_
          refine hK29 _ _ _ ?_
          refine WC.seq fun K30 hK30 => ?_
          refine WC.block ?_
          refine WC.seq fun K31 hK31 => ?_
          refine WC.region ?_
          refine WL.pure (v := vI (k : Int)) 36 rfl (Nat.le_of_ble_eq_true rfl) rfl rfl (by kernel_rfl) ?_
          refine WL.pure (v := vI (k : Int)) 12 rfl (Nat.le_of_ble_eq_true rfl) rfl rfl (by kernel_rfl) ?_
          refine WL.nil ?_
          refine WQ.then ?_
          refine hK31 _ _ _ ?_
          refine WC.seq fun K32 hK32 => ?_
          refine WC.region ?_
          refine WL.pure (v := .agg #[.slice (W.p 0) (W.n 0) (W.c 0), .slice (W.p 1) (W.n 1) (W.c 1), .slice (W.p 2) (W.n 2) (W.c 2), .slice (W.p 3) (W.n 3) (W.c 3), .slice (W.p 4) (W.n 4) (W.c 4)]) 37 rfl (Nat.le_of_ble_eq_true rfl) rfl rfl (x_loadS (cs := [.slice (W.p 0) (W.n 0) (W.c 0), .slice (W.p 1) (W.n 1) (W.c 1), .slice (W.p 2) (W.n 2) (W.c 2), .slice (W.p 3) (W.n 3) (W.c 3), .slice (W.p 4) (W.n 4) (W.c 4)]) rfl rfl Try.underlying55 rfl sz55 (HP.range hH27 0 rfl rfl)) ?_
          refine WL.pure (v := vI (mn : Int)) 38 rfl (Nat.le_of_ble_eq_true rfl) rfl rfl (by kernel_rfl) ?_
          refine WL.pure (v := vI (k : Int)) 39 rfl (Nat.le_of_ble_eq_true rfl) rfl rfl (by kernel_rfl) ?_
          refine WL.pure (v := vI n) 40 rfl (Nat.le_of_ble_eq_true rfl) rfl rfl (by kernel_rfl) ?_
          refine WL.call (f := 21) (args := #[.agg #[.slice (W.p 0) (W.n 0) (W.c 0), .slice (W.p 1) (W.n 1) (W.c 1), .slice (W.p 2) (W.n 2) (W.c 2), .slice (W.p 3) (W.n 3) (W.c 3), .slice (W.p 4) (W.n 4) (W.c 4)], vI (mn : Int), vI (k : Int), vI n]) 41 rfl (Nat.le_of_ble_eq_true rfl) rfl rfl (by kernel_rfl) ?_
          refine (end_any W (owl o sp N) mn (k : Int) n _ (hW.below (HP.below hH27)) hm (by omega) (by omega) hn1 hn2 hL).mono ?_
          rintro e w33 ⟨rfl, hb34⟩
          refine ⟨_, rfl, ?_⟩
          have hH35 : HP Tr wt _ [.cel b11 #[.slice (W.p 0) (W.n 0) (W.c 0), .slice (W.p 1) (W.n 1) (W.c 1), .slice (W.p 2) (W.n 2) (W.c 2), .slice (W.p 3) (W.n 3) (W.c 3), .slice (W.p 4) (W.n 4) (W.c 4)] 55] := HP.call hH27 hb34
          have heb := end_bd (l := (owl o sp N)) (m := (mn : Int)) (x := (k : Int)) (n := n) hl1 hl4 hL (by omega) (by omega) hn1 hn2
          refine WL.pure (v := vI (k : Int)) 42 rfl (Nat.le_of_ble_eq_true rfl) rfl rfl (by kernel_rfl) ?_
          refine WL.pure (v := vI (endV ((owl o sp N).length : Int) (posI (owl o sp N) (mn : Int)) (k : Int) n - (k : Int))) 43 rfl (Nat.le_of_ble_eq_true rfl) rfl rfl (x_sub (Z := endV ((owl o sp N).length : Int) (posI (owl o sp N) (mn : Int)) (k : Int) n - (k : Int)) rfl rfl rfl (by omega) (by omega) (by omega)) ?_
          refine WL.pure (v := vI (endV ((owl o sp N).length : Int) (posI (owl o sp N) (mn : Int)) (k : Int) n - (k : Int))) 13 rfl (Nat.le_of_ble_eq_true rfl) rfl rfl (by kernel_rfl) ?_
          refine WL.nil ?_
          refine WQ.then ?_
          refine hK32 _ _ _ ?_
          refine WC.sub (l' := [(1, vI (mn : Int)), (2, vI n), (3, .func (.func 9) #[] #[]), (8, vI d), (9, vI mm), (11, vP b11 0), (12, vI (k : Int)), (13, vI (endV ((owl o sp N).length : Int) (posI (owl o sp N) (mn : Int)) (k : Int) n - (k : Int))), (33, vI (W.n 0 : Int)), (34, vI (k : Int)), (35, .bool true)]) ⟨rfl, rfl, rfl, rfl, rfl, rfl, rfl, rfl, rfl, rfl, rfl, trivial⟩ ?_
          refine WC.seq fun K36 hK36 => ?_
          refine WC.region ?_
          refine WL.pure (v := vI (k : Int)) 44 rfl (Nat.le_of_ble_eq_true rfl) rfl rfl (by kernel_rfl) ?_
          by_cases hz : (k : Int) = 0
          ·
            have hk0 : k = 0 := by omega
            refine WL.pure (v := .bool true) 45 rfl (Nat.le_of_ble_eq_true rfl) rfl rfl (x_eql rfl rfl rfl (dT (hz))) ?_
            refine WL.pure (v := .bool true) 46 rfl (Nat.le_of_ble_eq_true rfl) rfl rfl (by kernel_rfl) ?_
            refine WL.pass 47 rfl (Nat.le_of_ble_eq_true rfl) rfl ?_
            refine WL.pass 48 rfl (Nat.le_of_ble_eq_true rfl) rfl ?_
            refine WL.pass 49 rfl (Nat.le_of_ble_eq_true rfl) rfl ?_
            refine WL.pass 50 rfl (Nat.le_of_ble_eq_true rfl) rfl ?_
            refine WL.pure (v := .bool true) 51 rfl (Nat.le_of_ble_eq_true rfl) rfl rfl (by kernel_rfl) ?_
            refine WL.nil ?_
            refine WQ.then ?_
            refine hK36 _ _ _ ?_
            refine WC.sub (l' := [(1, vI (mn : Int)), (2, vI n), (3, .func (.func 9) #[] #[]), (8, vI d), (9, vI mm), (11, vP b11 0), (12, vI (k : Int)), (13, vI (endV ((owl o sp N).length : Int) (posI (owl o sp N) (mn : Int)) (k : Int) n - (k : Int))), (33, vI (W.n 0 : Int)), (34, vI (k : Int)), (35, .bool true), (51, .bool true)]) ⟨rfl, rfl, rfl, rfl, rfl, rfl, rfl, rfl, rfl, rfl, rfl, rfl, trivial⟩ ?_
            refine WC.yes rfl ?_
            refine WC.region ?_
            refine WL.pure (v := vI (endV ((owl o sp N).length : Int) (posI (owl o sp N) (mn : Int)) (k : Int) n - (k : Int))) 52 rfl (Nat.le_of_ble_eq_true rfl) rfl rfl (by kernel_rfl) ?_
            refine WL.pure (v := vI (k : Int)) 53 rfl (Nat.le_of_ble_eq_true rfl) rfl rfl (by kernel_rfl) ?_
            refine WL.pure (v := vI (endV ((owl o sp N).length : Int) (posI (owl o sp N) (mn : Int)) (k : Int) n - (k : Int))) 8 rfl (Nat.le_of_ble_eq_true rfl) rfl rfl (by kernel_rfl) ?_
            refine WL.pure (v := vI (k : Int)) 9 rfl (Nat.le_of_ble_eq_true rfl) rfl rfl (by kernel_rfl) ?_
            refine WL.nil ?_
            refine WQ.inNormal ?_
            refine WQ.then ?_
            refine hK30 _ _ _ ?_
            refine WC.region ?_
            refine WL.pure (v := vI ((k + 1 : Nat) : Int)) 54 rfl (Nat.le_of_ble_eq_true rfl) rfl rfl (x_add (Z := ((k + 1 : Nat) : Int)) rfl rfl rfl (by omega) (by omega) (by omega)) ?_
            refine WL.pure (v := vI ((k + 1 : Nat) : Int)) 34 rfl (Nat.le_of_ble_eq_true rfl) rfl rfl (by kernel_rfl) ?_
            refine WL.nil ?_
            refine WQ.sub (l' := [(1, vI (mn : Int)), (2, vI n), (3, .func (.func 9) #[] #[]), (8, vI (endV ((owl o sp N).length : Int) (posI (owl o sp N) (mn : Int)) (k : Int) n - (k : Int))), (9, vI (k : Int)), (11, vP b11 0), (33, vI (W.n 0 : Int)), (34, vI ((k + 1 : Nat) : Int))]) ⟨rfl, rfl, rfl, rfl, rfl, rfl, rfl, rfl, trivial⟩ ?_
            refine WQ.then (hK25 _ _ _ (by omega) ⟨k + 1, endV ((owl o sp N).length : Int) (posI (owl o sp N) (mn : Int)) (k : Int) n - (k : Int), (k : Int), rfl, rfl, by omega, .inr (far_first hk0 (by omega) (by omega)), hH35⟩)
          ·
            refine WL.pure (v := .bool false) 45 rfl (Nat.le_of_ble_eq_true rfl) rfl rfl (x_eql rfl rfl rfl (dF (hz))) ?_
            refine WL.pure (v := .bool false) 46 rfl (Nat.le_of_ble_eq_true rfl) rfl rfl (by kernel_rfl) ?_
            refine WL.pure (v := .func (.func 9) #[] #[]) 47 rfl (Nat.le_of_ble_eq_true rfl) rfl rfl (by kernel_rfl) ?_
            refine WL.pure (v := vI (endV ((owl o sp N).length : Int) (posI (owl o sp N) (mn : Int)) (k : Int) n - (k : Int))) 48 rfl (Nat.le_of_ble_eq_true rfl) rfl rfl (by kernel_rfl) ?_
            refine WL.pure (v := vI d) 49 rfl (Nat.le_of_ble_eq_true rfl) rfl rfl (by kernel_rfl) ?_
            refine WL.call (f := 9) (args := #[vI (endV ((owl o sp N).length : Int) (posI (owl o sp N) (mn : Int)) (k : Int) n - (k : Int)), vI d]) 50 rfl (Nat.le_of_ble_eq_true rfl) rfl rfl (by kernel_rfl) ?_
            refine (more_any _ _ _).mono ?_
            rintro e w37 ⟨rfl, rfl⟩
            refine ⟨_, rfl, ?_⟩
            refine WL.pure (v := .bool (decide (d < endV ((owl o sp N).length : Int) (posI (owl o sp N) (mn : Int)) (k : Int) n - (k : Int)))) 51 rfl (Nat.le_of_ble_eq_true rfl) rfl rfl (by kernel_rfl) ?_
            refine WL.nil ?_
            refine WQ.then ?_
            refine hK36 _ _ _ ?_
            refine WC.sub (l' := [(1, vI (mn : Int)), (2, vI n), (3, .func (.func 9) #[] #[]), (8, vI d), (9, vI mm), (11, vP b11 0), (12, vI (k : Int)), (13, vI (endV ((owl o sp N).length : Int) (posI (owl o sp N) (mn : Int)) (k : Int) n - (k : Int))), (33, vI (W.n 0 : Int)), (34, vI (k : Int)), (35, .bool true), (51, .bool (decide (d < endV ((owl o sp N).length : Int) (posI (owl o sp N) (mn : Int)) (k : Int) n - (k : Int))))]) ⟨rfl, rfl, rfl, rfl, rfl, rfl, rfl, rfl, rfl, rfl, rfl, rfl, trivial⟩ ?_
            rcases Bool.eq_false_or_eq_true (decide (d < endV ((owl o sp N).length : Int) (posI (owl o sp N) (mn : Int)) (k : Int) n - (k : Int))) with hB | hB
            ·
              refine WC.yes (congrArg (fun b => some (Value.bool b)) hB) ?_
              refine WC.region ?_
              refine WL.pure (v := vI (endV ((owl o sp N).length : Int) (posI (owl o sp N) (mn : Int)) (k : Int) n - (k : Int))) 52 rfl (Nat.le_of_ble_eq_true rfl) rfl rfl (by kernel_rfl) ?_
              refine WL.pure (v := vI (k : Int)) 53 rfl (Nat.le_of_ble_eq_true rfl) rfl rfl (by kernel_rfl) ?_
              refine WL.pure (v := vI (endV ((owl o sp N).length : Int) (posI (owl o sp N) (mn : Int)) (k : Int) n - (k : Int))) 8 rfl (Nat.le_of_ble_eq_true rfl) rfl rfl (by kernel_rfl) ?_
              refine WL.pure (v := vI (k : Int)) 9 rfl (Nat.le_of_ble_eq_true rfl) rfl rfl (by kernel_rfl) ?_
              refine WL.nil ?_
              refine WQ.inNormal ?_
              refine WQ.then ?_
              refine hK30 _ _ _ ?_
              refine WC.region ?_
              refine WL.pure (v := vI ((k + 1 : Nat) : Int)) 54 rfl (Nat.le_of_ble_eq_true rfl) rfl rfl (x_add (Z := ((k + 1 : Nat) : Int)) rfl rfl rfl (by omega) (by omega) (by omega)) ?_
              refine WL.pure (v := vI ((k + 1 : Nat) : Int)) 34 rfl (Nat.le_of_ble_eq_true rfl) rfl rfl (by kernel_rfl) ?_
              refine WL.nil ?_
              refine WQ.sub (l' := [(1, vI (mn : Int)), (2, vI n), (3, .func (.func 9) #[] #[]), (8, vI (endV ((owl o sp N).length : Int) (posI (owl o sp N) (mn : Int)) (k : Int) n - (k : Int))), (9, vI (k : Int)), (11, vP b11 0), (33, vI (W.n 0 : Int)), (34, vI ((k + 1 : Nat) : Int))]) ⟨rfl, rfl, rfl, rfl, rfl, rfl, rfl, rfl, trivial⟩ ?_
              refine WQ.then (hK25 _ _ _ (by omega) ⟨k + 1, endV ((owl o sp N).length : Int) (posI (owl o sp N) (mn : Int)) (k : Int) n - (k : Int), (k : Int), rfl, rfl, by omega, far_more hd (by omega) (of_decide_eq_true hB) (by omega), hH35⟩)
            ·
              refine WC.no (congrArg (fun b => some (Value.bool b)) hB) ?_
              refine WC.skip ?_
              refine WQ.inNormal ?_
              refine WQ.then ?_
              refine hK30 _ _ _ ?_
              refine WC.region ?_
              refine WL.pure (v := vI ((k + 1 : Nat) : Int)) 54 rfl (Nat.le_of_ble_eq_true rfl) rfl rfl (x_add (Z := ((k + 1 : Nat) : Int)) rfl rfl rfl (by omega) (by omega) (by omega)) ?_
              refine WL.pure (v := vI ((k + 1 : Nat) : Int)) 34 rfl (Nat.le_of_ble_eq_true rfl) rfl rfl (by kernel_rfl) ?_
              refine WL.nil ?_
              refine WQ.sub (l' := [(1, vI (mn : Int)), (2, vI n), (3, .func (.func 9) #[] #[]), (8, vI d), (9, vI mm), (11, vP b11 0), (33, vI (W.n 0 : Int)), (34, vI ((k + 1 : Nat) : Int))]) ⟨rfl, rfl, rfl, rfl, rfl, rfl, rfl, rfl, trivial⟩ ?_
              refine WQ.then (hK25 _ _ _ (by omega) ⟨k + 1, d, mm, rfl, rfl, by omega, far_keep hd (by omega) (of_decide_eq_false hB), hH35⟩)
        ·
          refine WL.pure (v := .bool false) 35 rfl (Nat.le_of_ble_eq_true rfl) rfl rfl (x_lss rfl rfl rfl (dF (hlt))) ?_
          refine WL.nil ?_
          refine WQ.then ?_
          refine hK28 _ _ _ ?_
          refine WC.seq fun K38 hK38 => ?_
          refine WC.no rfl ?_
          refine WC.exit ?_
          refine WQ.thenExit ?_
          refine WQ.thenExit ?_
          refine WQ.inExit ?_
          refine WQ.then ?_
          refine hK20 _ _ _ ?_
          refine WC.seq fun K39 hK39 => ?_
          refine WC.region ?_
          refine WL.pure (v := vI d) 55 rfl (Nat.le_of_ble_eq_true rfl) rfl rfl (by kernel_rfl) ?_
          refine WL.pure (v := vI mm) 56 rfl (Nat.le_of_ble_eq_true rfl) rfl rfl (by kernel_rfl) ?_
          refine WL.pure (v := vI d) 8 rfl (Nat.le_of_ble_eq_true rfl) rfl rfl (by kernel_rfl) ?_
          refine WL.pure (v := vI mm) 9 rfl (Nat.le_of_ble_eq_true rfl) rfl rfl (by kernel_rfl) ?_
          refine WL.pure (v := vI 0) 10 rfl (Nat.le_of_ble_eq_true rfl) rfl rfl (by kernel_rfl) ?_
          refine WL.nil ?_
          refine WQ.then ?_
          refine hK39 _ _ _ ?_
          refine WC.ret ?_
          refine WQ.ret3 8 9 10 rfl rfl rfl rfl ?_
          rcases hd with ⟨hd, -⟩ | ⟨hd1, hd2, hd3, hd4⟩
          · omega
          · exact ⟨d, mm, 0, rfl, .inr ⟨rfl, ⟨hl9, hr9, hL, fun j hj => hd2 j (by omega), hd3, hd4⟩⟩, (HP.below (HP.call hHt (HP.below hH27)))⟩
    ·
      refine WL.call (f := 18) (args := #[.agg #[vI m, vI 0, vI n]]) 21 rfl (Nat.le_of_ble_eq_true rfl) rfl rfl (by kernel_rfl) ?_
      refine (isReq_at hr9 _).mono ?_
      rintro e w40 ⟨rfl, hb41⟩
      refine ⟨_, rfl, ?_⟩
      have hH42 : HP Tr w _ [] := HP.call hH7 hb41
      refine WL.pure (v := .bool true) 22 rfl (Nat.le_of_ble_eq_true rfl) rfl rfl (by kernel_rfl) ?_
      refine WL.pure (v := .bool true) 23 rfl (Nat.le_of_ble_eq_true rfl) rfl rfl (by kernel_rfl) ?_
      refine WL.nil ?_
      refine WQ.then ?_
      refine hK4 _ _ _ ?_
      refine WC.sub (l' := [(0, .slice p N cap), (1, vI m), (2, vI n), (3, .func (.func 9) #[] #[]), (8, vI 0), (9, vI 0), (10, vI 0), (23, .bool true)]) ⟨rfl, rfl, rfl, rfl, rfl, rfl, rfl, rfl, trivial⟩ ?_
      refine WC.yes rfl ?_
      refine WC.seq fun K43 hK43 => ?_
      refine WC.region ?_
      refine WL.pure (v := vI 0) 8 rfl (Nat.le_of_ble_eq_true rfl) rfl rfl (by kernel_rfl) ?_
      refine WL.pure (v := vI 0) 9 rfl (Nat.le_of_ble_eq_true rfl) rfl rfl (by kernel_rfl) ?_
      refine WL.pure (v := vI 1) 10 rfl (Nat.le_of_ble_eq_true rfl) rfl rfl (by kernel_rfl) ?_
      refine WL.nil ?_
      refine WQ.then ?_
      refine hK43 _ _ _ ?_
      refine WC.ret ?_
      refine WQ.thenRet ?_
      refine WQ.ret3 8 9 10 rfl rfl rfl rfl ?_
      exact ⟨0, 0, 1, rfl, .inl ⟨by decide, rfl⟩, (HP.below hH42)⟩
  ·
    refine WL.call (f := 17) (args := #[.slice p N cap]) 15 rfl (Nat.le_of_ble_eq_true rfl) rfl rfl (by kernel_rfl) ?_
    refine (bvalid_at hl9 p cap _ (hS.below (HP.below hH1)) hN).mono ?_
    rintro e w44 ⟨rfl, hb45⟩
    refine ⟨_, rfl, ?_⟩
    have hH46 : HP Tr w _ [] := HP.call hH1 hb45
    refine WL.pure (v := .bool true) 16 rfl (Nat.le_of_ble_eq_true rfl) rfl rfl (by kernel_rfl) ?_
    refine WL.pure (v := .bool true) 17 rfl (Nat.le_of_ble_eq_true rfl) rfl rfl (by kernel_rfl) ?_
    refine WL.pass 18 rfl (Nat.le_of_ble_eq_true rfl) rfl ?_
    refine WL.pass 19 rfl (Nat.le_of_ble_eq_true rfl) rfl ?_
    refine WL.pass 20 rfl (Nat.le_of_ble_eq_true rfl) rfl ?_
    refine WL.pass 21 rfl (Nat.le_of_ble_eq_true rfl) rfl ?_
    refine WL.pass 22 rfl (Nat.le_of_ble_eq_true rfl) rfl ?_
    refine WL.pure (v := .bool true) 23 rfl (Nat.le_of_ble_eq_true rfl) rfl rfl (by kernel_rfl) ?_
    refine WL.nil ?_
    refine WQ.then ?_
    refine hK4 _ _ _ ?_
    refine WC.sub (l' := [(0, .slice p N cap), (1, vI m), (2, vI n), (3, .func (.func 9) #[] #[]), (8, vI 0), (9, vI 0), (10, vI 0), (23, .bool true)]) ⟨rfl, rfl, rfl, rfl, rfl, rfl, rfl, rfl, trivial⟩ ?_
    refine WC.yes rfl ?_
    refine WC.seq fun K47 hK47 => ?_
    refine WC.region ?_
    refine WL.pure (v := vI 0) 8 rfl (Nat.le_of_ble_eq_true rfl) rfl rfl (by kernel_rfl) ?_
    refine WL.pure (v := vI 0) 9 rfl (Nat.le_of_ble_eq_true rfl) rfl rfl (by kernel_rfl) ?_
    refine WL.pure (v := vI 1) 10 rfl (Nat.le_of_ble_eq_true rfl) rfl rfl (by kernel_rfl) ?_
    refine WL.nil ?_
    refine WQ.then ?_
    refine hK47 _ _ _ ?_
    refine WC.ret ?_
    refine WQ.thenRet ?_
    refine WQ.ret3 8 9 10 rfl rfl rfl rfl ?_
    exact ⟨0, 0, 1, rfl, .inl ⟨by decide, rfl⟩, (HP.below hH46)⟩
set_option maxRecDepth 20000 in
set_option maxHeartbeats 4000000 in
theorem worst_any (p : Option Addr) (N cap : Nat) (o sp : Nat → Int) (m n : Int) (w : World) (hS : InS w p N o sp) (hN : N ≤ 1000) :
    Calls Try.prog 4 #[.slice p N cap, vI m, vI n] w (FarR o sp N m n w) := by
  refine calls_of Try.func4 rfl (m := 16) rfl [(0, .slice p N cap), (1, vI m), (2, vI n)] (Fr_enter [.slice p N cap, vI m, vI n] 16 (Nat.le_of_ble_eq_true rfl)) ?_
  have hH1 : HP Tr w w [] := HP.refl w
  refine WC.seq fun K2 hK2 => ?_
  refine WC.region ?_
  refine WL.pure (v := vI 0) 6 rfl (Nat.le_of_ble_eq_true rfl) rfl rfl (by kernel_rfl) ?_
  refine WL.pure (v := vI 0) 7 rfl (Nat.le_of_ble_eq_true rfl) rfl rfl (by kernel_rfl) ?_
  refine WL.pure (v := vI 0) 8 rfl (Nat.le_of_ble_eq_true rfl) rfl rfl (by kernel_rfl) ?_
  refine WL.nil ?_
  refine WQ.then ?_
  refine hK2 _ _ _ ?_
  refine WC.seq fun K3 hK3 => ?_
  refine WC.region ?_
  refine WL.pure (v := .slice p N cap) 9 rfl (Nat.le_of_ble_eq_true rfl) rfl rfl (by kernel_rfl) ?_
  refine WL.pure (v := vI m) 10 rfl (Nat.le_of_ble_eq_true rfl) rfl rfl (by kernel_rfl) ?_
  refine WL.pure (v := vI n) 11 rfl (Nat.le_of_ble_eq_true rfl) rfl rfl (by kernel_rfl) ?_
  refine WL.call (f := 8) (args := #[.slice p N cap, vI m, vI n, .func (.func 9) #[] #[]]) 12 rfl (Nat.le_of_ble_eq_true rfl) rfl rfl (by kernel_rfl) ?_
  refine (far_any p N cap o sp m n _ (hS.below (HP.below hH1)) hN).mono ?_
  rintro e w4 ⟨d, mm, er, rfl, hfr, hb5⟩
  refine ⟨_, rfl, ?_⟩
  have hH6 : HP Tr w _ [] := HP.call hH1 hb5
  refine WL.pure (v := vI d) 13 rfl (Nat.le_of_ble_eq_true rfl) rfl rfl (by kernel_rfl) ?_
  refine WL.pure (v := vI mm) 14 rfl (Nat.le_of_ble_eq_true rfl) rfl rfl (by kernel_rfl) ?_
  refine WL.pure (v := vI er) 15 rfl (Nat.le_of_ble_eq_true rfl) rfl rfl (by kernel_rfl) ?_
  refine WL.pure (v := vI d) 6 rfl (Nat.le_of_ble_eq_true rfl) rfl rfl (by kernel_rfl) ?_
  refine WL.pure (v := vI mm) 7 rfl (Nat.le_of_ble_eq_true rfl) rfl rfl (by kernel_rfl) ?_
  refine WL.pure (v := vI er) 8 rfl (Nat.le_of_ble_eq_true rfl) rfl rfl (by kernel_rfl) ?_
  refine WL.nil ?_
  refine WQ.then ?_
  refine hK3 _ _ _ ?_
  refine WC.sub (l' := [(0, .slice p N cap), (1, vI m), (2, vI n), (6, vI d), (7, vI mm), (8, vI er)]) ⟨rfl, rfl, rfl, rfl, rfl, rfl, trivial⟩ ?_
  refine WC.ret ?_
  refine WQ.ret3 6 7 8 rfl rfl rfl rfl ?_
  exact ⟨d, mm, er, rfl, hfr, HP.below hH6⟩
end Bs
end Go.Proofs.Yteckbfebemofmaa
