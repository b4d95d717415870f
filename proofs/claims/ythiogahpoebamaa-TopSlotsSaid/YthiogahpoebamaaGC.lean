/- The bus of two slots: shares, ends, delays. -/
import Derived.Test.YthiogahpoebamaaGB
set_option linter.unusedVariables false
set_option linter.unusedSimpArgs false
namespace Go.Proofs.Ythiogahpoebamaa
open Go.RowKit Fw Sup
namespace Bu
/-- a row of numbers one behind the other -/
def RR (w : World) (g a n : Nat) : Prop := ∀ i, i < n → w.rangeAt g i [vI ((a + i : Nat) : Int)]
theorem RR.below {w w' : World} {g a n : Nat} (h : RR w g a n) (hb : Below w.heap.size w w') : RR w' g a n := fun i hi j v hv => by
  rw [hb.cell (World.block_lt_of_cell? w _ (h i hi j v hv))]; exact h i hi j v hv
theorem RR.own {S : Nat → Prop} {w0 w : World} {H : List Ent} (hH : HP S w0 w H) (q : Nat) {g a n cp : Nat} (hi : H[q]? = some (.own (vS g n cp) n (rng a n) 3 1)) : RR w g a n := fun i hi2 j v hv => by
  match j, hv with
  | 0, hv => simp at hv; subst hv; exact HP.ownCell hH q hi (rng_get hi2)
  | j + 1, hv => simp at hv
theorem mulB {a b A B : Int} (h0 : 0 ≤ a) (h1 : a ≤ A) (h2 : 0 ≤ b) (h3 : b ≤ B) : 0 ≤ a * b ∧ a * b ≤ A * B :=
  ⟨Int.mul_nonneg h0 h2, Int.mul_le_mul h1 h3 h2 (Int.le_trans h0 h1)⟩
theorem divB {m F A : Int} (h0 : 0 ≤ m) (h1 : m ≤ A) (hF : 1 ≤ F) : 0 ≤ m / F ∧ m / F ≤ A :=
  ⟨Int.ediv_nonneg h0 (by omega), Int.le_trans (Int.ediv_le_self F h0) h1⟩
theorem adB {F S M m A : Int} (hF : 1 ≤ F) (hM : 0 ≤ M) (hM2 : M ≤ 50) (h0 : 0 ≤ m) (h1 : m ≤ A) : 0 ≤ ad F S M m ∧ ad F S M m ≤ A * 50 + 50 := by
  obtain ⟨d1, d2⟩ := divB h0 h1 hF
  obtain ⟨e1, e2⟩ := mulB d1 d2 hM hM2
  unfold ad; omega
theorem slot_ok {s t k : Nat} (hs : 1 ≤ s ∧ s ≤ 50) (ht : 1 ≤ t ∧ t ≤ 50) : 0 ≤ oF k ∧ oF k < 4 ∧ 1 ≤ sF s t k ∧ sF s t k ≤ 50 := by
  unfold oF sF; split <;> omega
theorem ad_up {F S M m d : Int} (hF : 1 ≤ F) (hM : 0 ≤ M) (hM2 : M ≤ 50) (hd : 0 ≤ d) : ad F S M m ≤ ad F S M (m + d) := by
  have step : ∀ x : Int, ad F S M x ≤ ad F S M (x + 1) := fun x => by
    obtain ⟨q, r, h1, h2, h3, h4, h5⟩ := div_mod F x (by omega)
    by_cases e : r + 1 < F
    · have q1 : (x + 1) / F = q ∧ (x + 1) % F = r + 1 := by
        rw [Int.ediv_emod_unique (by omega)]
        exact ⟨by rw [h3, Int.mul_comm F q]; omega, by omega, e⟩
      unfold ad; rw [h1, h2, q1.1, q1.2]; omega
    · have q1 : (x + 1) / F = q + 1 ∧ (x + 1) % F = 0 := by
        rw [Int.ediv_emod_unique (by omega)]
        exact ⟨by rw [h3, Int.mul_add, Int.mul_comm F q]; omega, by omega, by omega⟩
      unfold ad; rw [h1, h2, q1.1, q1.2, Int.add_mul]; omega
  have all : ∀ n : Nat, ad F S M m ≤ ad F S M (m + n) := fun n => by
    induction n with
    | zero => simp
    | succ n ih =>
      have := step (m + n)
      rw [show m + ((n + 1 : Nat) : Int) = m + n + 1 by omega]; omega
  have := all d.toNat
  rwa [show ((d.toNat : Nat) : Int) = d by omega] at this
theorem pdB {s t k : Nat} {n : Int} (hs : 1 ≤ s ∧ s ≤ 50) (ht : 1 ≤ t ∧ t ≤ 50) (hk : k ≤ 100) (hn0 : 1 ≤ n) (hn1 : n ≤ 100) : 0 ≤ pd ((s + t : Nat) : Int) (s : Int) (t : Int) (ad ((s + t : Nat) : Int) (s : Int) (t : Int) (k : Int) + n) ∧ pd ((s + t : Nat) : Int) (s : Int) (t : Int) (ad ((s + t : Nat) : Int) (s : Int) (t : Int) (k : Int) + n) ≤ 10000000 := by
  have h1 := adB (F := ((s + t : Nat) : Int)) (S := (s : Int)) (M := (t : Int)) (m := (k : Int)) (A := 100) (by omega) (by omega) (by omega) (by omega) (by omega)
  obtain ⟨d1, d2⟩ := divB (m := ad ((s + t : Nat) : Int) (s : Int) (t : Int) (k : Int) + n - 1) (F := (t : Int)) (A := 6000) (by omega) (by omega) (by omega)
  obtain ⟨e1, e2⟩ := mulB d1 d2 (show (0 : Int) ≤ ((s + t : Nat) : Int) by omega) (show ((s + t : Nat) : Int) ≤ 100 by omega)
  have m1 := Int.emod_nonneg (ad ((s + t : Nat) : Int) (s : Int) (t : Int) (k : Int) + n - 1) (show (t : Int) ≠ 0 by omega)
  have m2 := Int.emod_lt_of_pos (ad ((s + t : Nat) : Int) (s : Int) (t : Int) (k : Int) + n - 1) (show (0 : Int) < (t : Int) by omega)
  unfold pd; omega
theorem mx_take {g : Int → Int} {k j : Nat} {dl d : Int} (hj : k = j + 1) (h : dl = mx g j) (hd : g (k : Int) = d) (hlt : dl < d) : d = mx g k := by
  subst hj; show d = if mx g j < g ((j + 1 : Nat) : Int) then g ((j + 1 : Nat) : Int) else mx g j
  rw [hd, ← h, if_pos hlt]
theorem mx_keep {g : Int → Int} {k j : Nat} {dl d : Int} (hj : k = j + 1) (h : dl = mx g j) (hd : g (k : Int) = d) (hlt : ¬ dl < d) : dl = mx g k := by
  subst hj; show dl = if mx g j < g ((j + 1 : Nat) : Int) then g ((j + 1 : Nat) : Int) else mx g j
  rw [hd, ← h, if_neg hlt]
theorem sz3 : (Try.prog.info? 3).map (·.size) = some 1 := by kernel_rfl
theorem sz49 : (Try.prog.info? 49).map (·.size) = some 3 := by kernel_rfl
set_option maxRecDepth 20000 in
set_option maxHeartbeats 4000000 in
theorem isMaster_any (n : Int) (w : World) :
    Calls Try.prog 79 #[vI n] w fun e w' => e = .returned (.bool (decide (0 ≤ n) && decide (n < 4))) ∧ w = w' := by
  refine calls_of Try.func79 rfl (m := 9) rfl [(0, vI n)] (Fr_enter [vI n] 9 (Nat.le_of_ble_eq_true rfl)) ?_
  have hH1 : HP Tr w w [] := HP.refl w
  refine WC.seq fun K2 hK2 => ?_
  refine WC.region ?_
  refine WL.pure (v := .bool false) 2 rfl (Nat.le_of_ble_eq_true rfl) rfl rfl (by kernel_rfl) ?_
  refine WL.nil ?_
  refine WQ.then ?_
  refine hK2 _ _ _ ?_
  refine WC.seq fun K3 hK3 => ?_
  refine WC.region ?_
  refine WL.pure (v := vI n) 3 rfl (Nat.le_of_ble_eq_true rfl) rfl rfl (by kernel_rfl) ?_
  by_cases h0 : (0 : Int) ≤ n
  ·
    refine WL.pure (v := .bool true) 4 rfl (Nat.le_of_ble_eq_true rfl) rfl rfl (x_geq rfl rfl rfl (dT (h0))) ?_
    refine WL.pure (v := .bool true) 5 rfl (Nat.le_of_ble_eq_true rfl) rfl rfl (by kernel_rfl) ?_
    refine WL.pure (v := vI n) 6 rfl (Nat.le_of_ble_eq_true rfl) rfl rfl (by kernel_rfl) ?_
    by_cases h1 : n < 4
    ·
      refine WL.pure (v := .bool true) 7 rfl (Nat.le_of_ble_eq_true rfl) rfl rfl (x_lss rfl rfl rfl (dT (h1))) ?_
      refine WL.pure (v := .bool true) 8 rfl (Nat.le_of_ble_eq_true rfl) rfl rfl (by kernel_rfl) ?_
      refine WL.pure (v := .bool true) 2 rfl (Nat.le_of_ble_eq_true rfl) rfl rfl (by kernel_rfl) ?_
      refine WL.nil ?_
      refine WQ.then ?_
      refine hK3 _ _ _ ?_
      refine WC.sub (l' := [(0, vI n), (2, .bool true)]) ⟨rfl, rfl, trivial⟩ ?_
      refine WC.ret ?_
      refine WQ.ret1 2 rfl rfl ?_
      exact ⟨by rw [show (decide (0 ≤ n) && decide (n < 4)) = true by simp; omega], rfl⟩
    ·
      refine WL.pure (v := .bool false) 7 rfl (Nat.le_of_ble_eq_true rfl) rfl rfl (x_lss rfl rfl rfl (dF (h1))) ?_
      refine WL.pure (v := .bool false) 8 rfl (Nat.le_of_ble_eq_true rfl) rfl rfl (by kernel_rfl) ?_
      refine WL.pure (v := .bool false) 2 rfl (Nat.le_of_ble_eq_true rfl) rfl rfl (by kernel_rfl) ?_
      refine WL.nil ?_
      refine WQ.then ?_
      refine hK3 _ _ _ ?_
      refine WC.sub (l' := [(0, vI n), (2, .bool false)]) ⟨rfl, rfl, trivial⟩ ?_
      refine WC.ret ?_
      refine WQ.ret1 2 rfl rfl ?_
      exact ⟨by rw [show (decide (0 ≤ n) && decide (n < 4)) = false by simp; omega], rfl⟩
  ·
    refine WL.pure (v := .bool false) 4 rfl (Nat.le_of_ble_eq_true rfl) rfl rfl (x_geq rfl rfl rfl (dF (h0))) ?_
    refine WL.pure (v := .bool false) 5 rfl (Nat.le_of_ble_eq_true rfl) rfl rfl (by kernel_rfl) ?_
    refine WL.pass 6 rfl (Nat.le_of_ble_eq_true rfl) rfl ?_
    refine WL.pass 7 rfl (Nat.le_of_ble_eq_true rfl) rfl ?_
    refine WL.pure (v := .bool false) 8 rfl (Nat.le_of_ble_eq_true rfl) rfl rfl (by kernel_rfl) ?_
    refine WL.pure (v := .bool false) 2 rfl (Nat.le_of_ble_eq_true rfl) rfl rfl (by kernel_rfl) ?_
    refine WL.nil ?_
    refine WQ.then ?_
    refine hK3 _ _ _ ?_
    refine WC.sub (l' := [(0, vI n), (2, .bool false)]) ⟨rfl, rfl, trivial⟩ ?_
    refine WC.ret ?_
    refine WQ.ret1 2 rfl rfl ?_
    exact ⟨by rw [show (decide (0 ≤ n) && decide (n < 4)) = false by simp; omega], rfl⟩
set_option maxRecDepth 20000 in
set_option maxHeartbeats 4000000 in
theorem bwithin_any (n m : Int) (w : World) :
    Calls Try.prog 80 #[vI n, vI m] w fun e w' => e = .returned (.bool (decide (0 ≤ n) && decide (n ≤ m))) ∧ w = w' := by
  refine calls_of Try.func80 rfl (m := 12) rfl [(0, vI n), (1, vI m)] (Fr_enter [vI n, vI m] 12 (Nat.le_of_ble_eq_true rfl)) ?_
  have hH1 : HP Tr w w [] := HP.refl w
  refine WC.seq fun K2 hK2 => ?_
  refine WC.region ?_
  refine WL.pure (v := .bool false) 4 rfl (Nat.le_of_ble_eq_true rfl) rfl rfl (by kernel_rfl) ?_
  refine WL.nil ?_
  refine WQ.then ?_
  refine hK2 _ _ _ ?_
  refine WC.seq fun K3 hK3 => ?_
  refine WC.region ?_
  refine WL.pure (v := vI n) 5 rfl (Nat.le_of_ble_eq_true rfl) rfl rfl (by kernel_rfl) ?_
  by_cases h0 : (0 : Int) ≤ n
  ·
    refine WL.pure (v := .bool true) 6 rfl (Nat.le_of_ble_eq_true rfl) rfl rfl (x_geq rfl rfl rfl (dT (h0))) ?_
    refine WL.pure (v := .bool true) 7 rfl (Nat.le_of_ble_eq_true rfl) rfl rfl (by kernel_rfl) ?_
    refine WL.pure (v := vI n) 8 rfl (Nat.le_of_ble_eq_true rfl) rfl rfl (by kernel_rfl) ?_
    refine WL.pure (v := vI m) 9 rfl (Nat.le_of_ble_eq_true rfl) rfl rfl (by kernel_rfl) ?_
    by_cases h1 : n ≤ m
    ·
      refine WL.pure (v := .bool true) 10 rfl (Nat.le_of_ble_eq_true rfl) rfl rfl (x_leq rfl rfl rfl (dT (h1))) ?_
      refine WL.pure (v := .bool true) 11 rfl (Nat.le_of_ble_eq_true rfl) rfl rfl (by kernel_rfl) ?_
      refine WL.pure (v := .bool true) 4 rfl (Nat.le_of_ble_eq_true rfl) rfl rfl (by kernel_rfl) ?_
      refine WL.nil ?_
      refine WQ.then ?_
      refine hK3 _ _ _ ?_
      refine WC.sub (l' := [(0, vI n), (1, vI m), (4, .bool true)]) ⟨rfl, rfl, rfl, trivial⟩ ?_
      refine WC.ret ?_
      refine WQ.ret1 4 rfl rfl ?_
      exact ⟨by rw [show (decide (0 ≤ n) && decide (n ≤ m)) = true by simp; omega], rfl⟩
    ·
      refine WL.pure (v := .bool false) 10 rfl (Nat.le_of_ble_eq_true rfl) rfl rfl (x_leq rfl rfl rfl (dF (h1))) ?_
      refine WL.pure (v := .bool false) 11 rfl (Nat.le_of_ble_eq_true rfl) rfl rfl (by kernel_rfl) ?_
      refine WL.pure (v := .bool false) 4 rfl (Nat.le_of_ble_eq_true rfl) rfl rfl (by kernel_rfl) ?_
      refine WL.nil ?_
      refine WQ.then ?_
      refine hK3 _ _ _ ?_
      refine WC.sub (l' := [(0, vI n), (1, vI m), (4, .bool false)]) ⟨rfl, rfl, rfl, trivial⟩ ?_
      refine WC.ret ?_
      refine WQ.ret1 4 rfl rfl ?_
      exact ⟨by rw [show (decide (0 ≤ n) && decide (n ≤ m)) = false by simp; omega], rfl⟩
  ·
    refine WL.pure (v := .bool false) 6 rfl (Nat.le_of_ble_eq_true rfl) rfl rfl (x_geq rfl rfl rfl (dF (h0))) ?_
    refine WL.pure (v := .bool false) 7 rfl (Nat.le_of_ble_eq_true rfl) rfl rfl (by kernel_rfl) ?_
    refine WL.pass 8 rfl (Nat.le_of_ble_eq_true rfl) rfl ?_
    refine WL.pass 9 rfl (Nat.le_of_ble_eq_true rfl) rfl ?_
    refine WL.pass 10 rfl (Nat.le_of_ble_eq_true rfl) rfl ?_
    refine WL.pure (v := .bool false) 11 rfl (Nat.le_of_ble_eq_true rfl) rfl rfl (by kernel_rfl) ?_
    refine WL.pure (v := .bool false) 4 rfl (Nat.le_of_ble_eq_true rfl) rfl rfl (by kernel_rfl) ?_
    refine WL.nil ?_
    refine WQ.then ?_
    refine hK3 _ _ _ ?_
    refine WC.sub (l' := [(0, vI n), (1, vI m), (4, .bool false)]) ⟨rfl, rfl, rfl, trivial⟩ ?_
    refine WC.ret ?_
    refine WQ.ret1 4 rfl rfl ?_
    exact ⟨by rw [show (decide (0 ≤ n) && decide (n ≤ m)) = false by simp; omega], rfl⟩
set_option maxRecDepth 20000 in
set_option maxHeartbeats 4000000 in
theorem isNaN_any (n : Int) (w : World) :
    Calls Try.prog 92 #[vI n] w fun e w' => e = .returned (.bool false) ∧ w = w' := by
  refine calls_of Try.func92 rfl (m := 6) rfl [(0, vI n)] (Fr_enter [vI n] 6 (Nat.le_of_ble_eq_true rfl)) ?_
  have hH1 : HP Tr w w [] := HP.refl w
  refine WC.seq fun K2 hK2 => ?_
  refine WC.region ?_
  refine WL.pure (v := .bool false) 2 rfl (Nat.le_of_ble_eq_true rfl) rfl rfl (by kernel_rfl) ?_
  refine WL.nil ?_
  refine WQ.then ?_
  refine hK2 _ _ _ ?_
  refine WC.seq fun K3 hK3 => ?_
  refine WC.region ?_
  refine WL.pure (v := vI n) 3 rfl (Nat.le_of_ble_eq_true rfl) rfl rfl (by kernel_rfl) ?_
  refine WL.pure (v := vI n) 4 rfl (Nat.le_of_ble_eq_true rfl) rfl rfl (by kernel_rfl) ?_
  refine WL.pure (v := .bool false) 5 rfl (Nat.le_of_ble_eq_true rfl) rfl rfl (x_neq rfl rfl rfl (dF (fun h => h rfl))) ?_
  refine WL.pure (v := .bool false) 2 rfl (Nat.le_of_ble_eq_true rfl) rfl rfl (by kernel_rfl) ?_
  refine WL.nil ?_
  refine WQ.then ?_
  refine hK3 _ _ _ ?_
  refine WC.ret ?_
  refine WQ.ret1 2 rfl rfl ?_
  exact ⟨rfl, rfl⟩
set_option maxRecDepth 20000 in
set_option maxHeartbeats 4000000 in
theorem isNaN2_any (n : Int) (w : World) :
    Calls Try.prog 91 #[vI n] w fun e w' => e = .returned (.bool false) ∧ w = w' := by
  refine calls_of Try.func91 rfl (m := 6) rfl [(0, vI n)] (Fr_enter [vI n] 6 (Nat.le_of_ble_eq_true rfl)) ?_
  have hH1 : HP Tr w w [] := HP.refl w
  refine WC.seq fun K2 hK2 => ?_
  refine WC.region ?_
  refine WL.pure (v := .bool false) 2 rfl (Nat.le_of_ble_eq_true rfl) rfl rfl (by kernel_rfl) ?_
  refine WL.nil ?_
  refine WQ.then ?_
  refine hK2 _ _ _ ?_
  refine WC.seq fun K3 hK3 => ?_
  refine WC.region ?_
  refine WL.pure (v := vI n) 3 rfl (Nat.le_of_ble_eq_true rfl) rfl rfl (by kernel_rfl) ?_
  refine WL.pure (v := vI n) 4 rfl (Nat.le_of_ble_eq_true rfl) rfl rfl (by kernel_rfl) ?_
  refine WL.pure (v := .bool false) 5 rfl (Nat.le_of_ble_eq_true rfl) rfl rfl (x_neq rfl rfl rfl (dF (fun h => h rfl))) ?_
  refine WL.pure (v := .bool false) 2 rfl (Nat.le_of_ble_eq_true rfl) rfl rfl (by kernel_rfl) ?_
  refine WL.nil ?_
  refine WQ.then ?_
  refine hK3 _ _ _ ?_
  refine WC.ret ?_
  refine WQ.ret1 2 rfl rfl ?_
  exact ⟨rfl, rfl⟩
set_option maxRecDepth 20000 in
set_option maxHeartbeats 4000000 in
theorem less90_any (x y : Int) (w : World) :
    Calls Try.prog 90 #[vI x, vI y] w fun e w' => e = .returned (.bool (decide (x < y))) ∧ w = w' := by
  refine calls_of Try.func90 rfl (m := 17) rfl [(0, vI x), (1, vI y)] (Fr_enter [vI x, vI y] 17 (Nat.le_of_ble_eq_true rfl)) ?_
  have hH1 : HP Tr w w [] := HP.refl w
  refine WC.seq fun K2 hK2 => ?_
  refine WC.region ?_
  refine WL.pure (v := .bool false) 4 rfl (Nat.le_of_ble_eq_true rfl) rfl rfl (by kernel_rfl) ?_
  refine WL.nil ?_
  refine WQ.then ?_
  refine hK2 _ _ _ ?_
  refine WC.seq fun K3 hK3 => ?_
  refine WC.region ?_
  refine WL.pure (v := vI x) 5 rfl (Nat.le_of_ble_eq_true rfl) rfl rfl (by kernel_rfl) ?_
  refine WL.call (f := 92) (args := #[vI x]) 6 rfl (Nat.le_of_ble_eq_true rfl) rfl rfl (by kernel_rfl) ?_
  refine (isNaN_any _ _).mono ?_
  rintro e w4 ⟨rfl, rfl⟩
  refine ⟨_, rfl, ?_⟩
  refine WL.pure (v := .bool false) 7 rfl (Nat.le_of_ble_eq_true rfl) rfl rfl (by kernel_rfl) ?_
  refine WL.pass 8 rfl (Nat.le_of_ble_eq_true rfl) rfl ?_
  refine WL.pass 9 rfl (Nat.le_of_ble_eq_true rfl) rfl ?_
  refine WL.pass 10 rfl (Nat.le_of_ble_eq_true rfl) rfl ?_
  refine WL.pure (v := .bool false) 11 rfl (Nat.le_of_ble_eq_true rfl) rfl rfl (by kernel_rfl) ?_
  refine WL.pure (v := .bool false) 12 rfl (Nat.le_of_ble_eq_true rfl) rfl rfl (by kernel_rfl) ?_
  refine WL.pure (v := vI x) 13 rfl (Nat.le_of_ble_eq_true rfl) rfl rfl (by kernel_rfl) ?_
  refine WL.pure (v := vI y) 14 rfl (Nat.le_of_ble_eq_true rfl) rfl rfl (by kernel_rfl) ?_
  by_cases h : x < y
  ·
    refine WL.pure (v := .bool true) 15 rfl (Nat.le_of_ble_eq_true rfl) rfl rfl (x_lss rfl rfl rfl (dT (h))) ?_
    refine WL.pure (v := .bool true) 16 rfl (Nat.le_of_ble_eq_true rfl) rfl rfl (by kernel_rfl) ?_
    refine WL.pure (v := .bool true) 4 rfl (Nat.le_of_ble_eq_true rfl) rfl rfl (by kernel_rfl) ?_
    refine WL.nil ?_
    refine WQ.then ?_
    refine hK3 _ _ _ ?_
    refine WC.sub (l' := [(0, vI x), (1, vI y), (4, .bool true)]) ⟨rfl, rfl, rfl, trivial⟩ ?_
    refine WC.ret ?_
    refine WQ.ret1 4 rfl rfl ?_
    exact ⟨by rw [show decide (x < y) = true from dT h], rfl⟩
  ·
    refine WL.pure (v := .bool false) 15 rfl (Nat.le_of_ble_eq_true rfl) rfl rfl (x_lss rfl rfl rfl (dF (h))) ?_
    refine WL.pure (v := .bool false) 16 rfl (Nat.le_of_ble_eq_true rfl) rfl rfl (by kernel_rfl) ?_
    refine WL.pure (v := .bool false) 4 rfl (Nat.le_of_ble_eq_true rfl) rfl rfl (by kernel_rfl) ?_
    refine WL.nil ?_
    refine WQ.then ?_
    refine hK3 _ _ _ ?_
    refine WC.sub (l' := [(0, vI x), (1, vI y), (4, .bool false)]) ⟨rfl, rfl, rfl, trivial⟩ ?_
    refine WC.ret ?_
    refine WQ.ret1 4 rfl rfl ?_
    exact ⟨by rw [show decide (x < y) = false from dF h], rfl⟩
set_option maxRecDepth 20000 in
set_option maxHeartbeats 4000000 in
theorem more69_any (x y : Int) (w : World) :
    Calls Try.prog 69 #[vI x, vI y] w fun e w' => e = .returned (.bool (decide (y < x))) ∧ w = w' := by
  refine calls_of Try.func69 rfl (m := 8) rfl [(0, vI x), (1, vI y)] (Fr_enter [vI x, vI y] 8 (Nat.le_of_ble_eq_true rfl)) ?_
  have hH1 : HP Tr w w [] := HP.refl w
  refine WC.seq fun K2 hK2 => ?_
  refine WC.region ?_
  refine WL.pure (v := .bool false) 4 rfl (Nat.le_of_ble_eq_true rfl) rfl rfl (by kernel_rfl) ?_
  refine WL.nil ?_
  refine WQ.then ?_
  refine hK2 _ _ _ ?_
  refine WC.seq fun K3 hK3 => ?_
  refine WC.region ?_
  refine WL.pure (v := vI x) 5 rfl (Nat.le_of_ble_eq_true rfl) rfl rfl (by kernel_rfl) ?_
  refine WL.pure (v := vI y) 6 rfl (Nat.le_of_ble_eq_true rfl) rfl rfl (by kernel_rfl) ?_
  by_cases h : y < x
  ·
    refine WL.pure (v := .bool true) 7 rfl (Nat.le_of_ble_eq_true rfl) rfl rfl (x_gtr rfl rfl rfl (dT (h))) ?_
    refine WL.pure (v := .bool true) 4 rfl (Nat.le_of_ble_eq_true rfl) rfl rfl (by kernel_rfl) ?_
    refine WL.nil ?_
    refine WQ.then ?_
    refine hK3 _ _ _ ?_
    refine WC.ret ?_
    refine WQ.ret1 4 rfl rfl ?_
    exact ⟨by rw [show decide (y < x) = true from dT h], rfl⟩
  ·
    refine WL.pure (v := .bool false) 7 rfl (Nat.le_of_ble_eq_true rfl) rfl rfl (x_gtr rfl rfl rfl (dF (h))) ?_
    refine WL.pure (v := .bool false) 4 rfl (Nat.le_of_ble_eq_true rfl) rfl rfl (by kernel_rfl) ?_
    refine WL.nil ?_
    refine WQ.then ?_
    refine hK3 _ _ _ ?_
    refine WC.ret ?_
    refine WQ.ret1 4 rfl rfl ?_
    exact ⟨by rw [show decide (y < x) = false from dF h], rfl⟩
set_option maxRecDepth 20000 in
set_option maxHeartbeats 4000000 in
theorem bad_any (x y : Int) (w : World) (h0 : 0 ≤ x) (h1 : x < 4) (h2 : 1 ≤ y) (h3 : y ≤ 50) :
    Calls Try.prog 84 #[.agg #[vI x, vI y]] w fun e w' => e = .returned (.bool false) ∧ Below w.heap.size w w' := by
  refine calls_of Try.func84 rfl (m := 21) rfl [(0, .agg #[vI x, vI y])] (Fr_enter [.agg #[vI x, vI y]] 21 (Nat.le_of_ble_eq_true rfl)) ?_
  have hH1 : HP Tr w w [] := HP.refl w
  refine WC.seq fun K2 hK2 => ?_
  refine WC.region ?_
  refine WL.alloc (c := #[vI x, vI y]) (T := 44) hH1 1 rfl (by decide) rfl rfl (fun b3 => vP b3 0) (by kernel_rfl) (fun b3 w4 hw4 => ?_)
  have hH5 : HP Tr w w4 [.cel b3 #[vI x, vI y] 44] := hw4.2
  have nb3 := hw4.1
  clear hw4
  refine WL.pure (v := .bool false) 2 rfl (Nat.le_of_ble_eq_true rfl) rfl rfl (by kernel_rfl) ?_
  refine WL.nil ?_
  refine WQ.then ?_
  refine hK2 _ _ _ ?_
  refine WC.seq fun K6 hK6 => ?_
  refine WC.region ?_
  refine WL.pure (v := vP b3 0) 3 rfl (Nat.le_of_ble_eq_true rfl) rfl rfl (by kernel_rfl) ?_
  refine WL.pure (v := vI x) 4 rfl (Nat.le_of_ble_eq_true rfl) rfl rfl (x_load rfl rfl Try.underlying3 rfl (HP.cell hH5 0 rfl rfl)) ?_
  refine WL.pure (v := .bool false) 5 rfl (Nat.le_of_ble_eq_true rfl) rfl rfl (x_lss rfl rfl rfl (dF (by omega))) ?_
  refine WL.pure (v := .bool false) 6 rfl (Nat.le_of_ble_eq_true rfl) rfl rfl (by kernel_rfl) ?_
  refine WL.pure (v := vP b3 0) 7 rfl (Nat.le_of_ble_eq_true rfl) rfl rfl (by kernel_rfl) ?_
  refine WL.pure (v := vI x) 8 rfl (Nat.le_of_ble_eq_true rfl) rfl rfl (x_load rfl rfl Try.underlying3 rfl (HP.cell hH5 0 rfl rfl)) ?_
  refine WL.pure (v := .bool false) 9 rfl (Nat.le_of_ble_eq_true rfl) rfl rfl (x_geq rfl rfl rfl (dF (by omega))) ?_
  refine WL.pure (v := .bool false) 10 rfl (Nat.le_of_ble_eq_true rfl) rfl rfl (by kernel_rfl) ?_
  refine WL.pure (v := .bool false) 11 rfl (Nat.le_of_ble_eq_true rfl) rfl rfl (by kernel_rfl) ?_
  refine WL.pure (v := vP b3 1) 12 rfl (Nat.le_of_ble_eq_true rfl) rfl rfl (by kernel_rfl) ?_
  refine WL.pure (v := vI y) 13 rfl (Nat.le_of_ble_eq_true rfl) rfl rfl (x_load rfl rfl Try.underlying3 rfl (HP.cell hH5 0 rfl rfl)) ?_
  refine WL.pure (v := .bool false) 14 rfl (Nat.le_of_ble_eq_true rfl) rfl rfl (x_lss rfl rfl rfl (dF (by omega))) ?_
  refine WL.pure (v := .bool false) 15 rfl (Nat.le_of_ble_eq_true rfl) rfl rfl (by kernel_rfl) ?_
  refine WL.pure (v := .bool false) 16 rfl (Nat.le_of_ble_eq_true rfl) rfl rfl (by kernel_rfl) ?_
  refine WL.pure (v := vP b3 1) 17 rfl (Nat.le_of_ble_eq_true rfl) rfl rfl (by kernel_rfl) ?_
  refine WL.pure (v := vI y) 18 rfl (Nat.le_of_ble_eq_true rfl) rfl rfl (x_load rfl rfl Try.underlying3 rfl (HP.cell hH5 0 rfl rfl)) ?_
  refine WL.pure (v := .bool false) 19 rfl (Nat.le_of_ble_eq_true rfl) rfl rfl (x_gtr rfl rfl rfl (dF (by omega))) ?_
  refine WL.pure (v := .bool false) 20 rfl (Nat.le_of_ble_eq_true rfl) rfl rfl (by kernel_rfl) ?_
  refine WL.pure (v := .bool false) 2 rfl (Nat.le_of_ble_eq_true rfl) rfl rfl (by kernel_rfl) ?_
  refine WL.nil ?_
  refine WQ.then ?_
  refine hK6 _ _ _ ?_
  refine WC.sub (l' := [(0, .agg #[vI x, vI y]), (1, vP b3 0), (2, .bool false)]) ⟨rfl, rfl, rfl, trivial⟩ ?_
  refine WC.ret ?_
  refine WQ.ret1 2 rfl rfl ?_
  exact ⟨rfl, HP.below hH5⟩
set_option maxRecDepth 20000 in
set_option maxHeartbeats 4000000 in
theorem index_any (bb oo s t : Nat) (w : World) (hr : LR w bb oo s t) (hs : 1 ≤ s ∧ s ≤ 50) (ht : 1 ≤ t ∧ t ≤ 50) :
    Calls Try.prog 89 #[.slice (some ⟨bb, oo, none⟩) 2 2, .func (.func 84) #[] #[]] w fun e w' => e = .returned (.int .i64 (-1)) ∧ Below w.heap.size w w' := by
  refine calls_of Try.func89 rfl (m := 19) rfl [(0, .slice (some ⟨bb, oo, none⟩) 2 2), (1, .func (.func 84) #[] #[])] (Fr_enter [.slice (some ⟨bb, oo, none⟩) 2 2, .func (.func 84) #[] #[]] 19 (Nat.le_of_ble_eq_true rfl)) ?_
  have hH1 : HP Tr w w [] := HP.refl w
  refine WC.seq fun K2 hK2 => ?_
  refine WC.region ?_
  refine WL.pure (v := vI 0) 4 rfl (Nat.le_of_ble_eq_true rfl) rfl rfl (by kernel_rfl) ?_
  refine WL.nil ?_
  refine WQ.then ?_
  refine hK2 _ _ _ ?_
  refine WC.seq fun K3 hK3 => ?_
  refine WC.seq fun K4 hK4 => ?_
  refine WC.region ?_
  refine WL.pure (v := .slice (some ⟨bb, oo, none⟩) 2 2) 6 rfl (Nat.le_of_ble_eq_true rfl) rfl rfl (by kernel_rfl) ?_
  refine WL.pure (v := vI 2) 7 rfl (Nat.le_of_ble_eq_true rfl) rfl rfl (by kernel_rfl) ?_
  refine WL.pure (v := vI 0) 8 rfl (Nat.le_of_ble_eq_true rfl) rfl rfl (by kernel_rfl) ?_
  refine WL.nil ?_
  refine WQ.then ?_
  refine hK4 _ _ _ ?_
  refine WC.block ?_
  refine WC.loop (fun kk0 ll0 ww0 => ∃ (k : Nat), ll0 = [(0, .slice (some ⟨bb, oo, none⟩) 2 2), (1, .func (.func 84) #[] #[]), (7, vI 2), (8, vI (k : Int))] ∧ kk0 = 2 - k ∧ (k ≤ 2) ∧ HP Tr w ww0 []) (2) [(0, .slice (some ⟨bb, oo, none⟩) 2 2), (1, .func (.func 84) #[] #[]), (7, vI 2), (8, vI 0)] ⟨rfl, rfl, rfl, rfl, trivial⟩ ⟨0, rfl, rfl, Nat.zero_le _, hH1⟩ ?_
  rintro kk l w6 ⟨k, rfl, hkk, hk, hH7⟩ K5 hK5
  refine WC.seq fun K8 hK8 => ?_
  refine WC.region ?_
  by_cases hlt : (k : Int) < 2
  ·
    refine WL.pure (v := .bool true) 9 rfl (Nat.le_of_ble_eq_true rfl) rfl rfl (x_lss rfl rfl rfl (dT (hlt))) ?_
    refine WL.nil ?_
    refine WQ.then ?_
    refine hK8 _ _ _ ?_
    refine WC.seq fun K9 hK9 => ?_
    refine WC.yes rfl ?_
    refine WC.skip ?_
    refine WQ.then ?_
    refine hK9 _ _ _ ?_
    refine WC.seq fun K10 hK10 => ?_
    refine WC.block ?_
    refine WC.seq fun K11 hK11 => ?_
    refine WC.region ?_
    refine WL.pure (v := vI (k : Int)) 10 rfl (Nat.le_of_ble_eq_true rfl) rfl rfl (by kernel_rfl) ?_
    refine WL.pure (v := vI (k : Int)) 5 rfl (Nat.le_of_ble_eq_true rfl) rfl rfl (by kernel_rfl) ?_
    refine WL.nil ?_
    refine WQ.then ?_
    refine hK11 _ _ _ ?_
    refine WC.seq fun K12 hK12 => ?_
    refine WC.region ?_
    refine WL.pure (v := .func (.func 84) #[] #[]) 11 rfl (Nat.le_of_ble_eq_true rfl) rfl rfl (by kernel_rfl) ?_
    refine WL.pure (v := .slice (some ⟨bb, oo, none⟩) 2 2) 12 rfl (Nat.le_of_ble_eq_true rfl) rfl rfl (by kernel_rfl) ?_
    refine WL.pure (v := vI (k : Int)) 13 rfl (Nat.le_of_ble_eq_true rfl) rfl rfl (by kernel_rfl) ?_
    refine WL.pure (v := vP bb (oo + k * 2)) 14 rfl (Nat.le_of_ble_eq_true rfl) rfl rfl (x_idx (k) (oo + k * 2) rfl rfl rfl Try.underlying45 sz44 (by omega) (by omega) (by omega)) ?_
    refine WL.pure (v := .agg #[vI (oF k), vI (sF s t k)]) 15 rfl (Nat.le_of_ble_eq_true rfl) rfl rfl (x_loadS (cs := [vI (oF k), vI (sF s t k)]) rfl rfl Try.underlying44 rfl sz44 (HP.oldRange hH7 trivial (hr k (by omega)))) ?_
    obtain ⟨q1, q2, q3, q4⟩ := slot_ok (k := k) hs ht
    refine WL.call (f := 84) (args := #[.agg #[vI (oF k), vI (sF s t k)]]) 16 rfl (Nat.le_of_ble_eq_true rfl) rfl rfl (by kernel_rfl) ?_
    refine (bad_any _ _ _ q1 q2 q3 q4).mono ?_
    rintro e w13 ⟨rfl, hb14⟩
    refine ⟨_, rfl, ?_⟩
    have hH15 : HP Tr w _ [] := HP.call hH7 hb14
    refine WL.nil ?_
    refine WQ.then ?_
    refine hK12 _ _ _ ?_
    refine WC.sub (l' := [(0, .slice (some ⟨bb, oo, none⟩) 2 2), (1, .func (.func 84) #[] #[]), (5, vI (k : Int)), (7, vI 2), (8, vI (k : Int)), (9, .bool true), (16, .bool false)]) ⟨rfl, rfl, rfl, rfl, rfl, rfl, rfl, trivial⟩ ?_
    refine WC.no rfl ?_
    refine WC.skip ?_
    refine WQ.inNormal ?_
    refine WQ.then ?_
    refine hK10 _ _ _ ?_
    refine WC.region ?_
    refine WL.pure (v := vI ((k + 1 : Nat) : Int)) 18 rfl (Nat.le_of_ble_eq_true rfl) rfl rfl (x_add (Z := ((k + 1 : Nat) : Int)) rfl rfl rfl (by omega) (by omega) (by omega)) ?_
    refine WL.pure (v := vI ((k + 1 : Nat) : Int)) 8 rfl (Nat.le_of_ble_eq_true rfl) rfl rfl (by kernel_rfl) ?_
    refine WL.nil ?_
    refine WQ.sub (l' := [(0, .slice (some ⟨bb, oo, none⟩) 2 2), (1, .func (.func 84) #[] #[]), (7, vI 2), (8, vI ((k + 1 : Nat) : Int))]) ⟨rfl, rfl, rfl, rfl, trivial⟩ ?_
    refine WQ.then (hK5 _ _ _ (by omega) ⟨k + 1, rfl, rfl, by omega, hH15⟩)
  ·
    refine WL.pure (v := .bool false) 9 rfl (Nat.le_of_ble_eq_true rfl) rfl rfl (x_lss rfl rfl rfl (dF (hlt))) ?_
    refine WL.nil ?_
    refine WQ.then ?_
    refine hK8 _ _ _ ?_
    refine WC.seq fun K16 hK16 => ?_
    refine WC.no rfl ?_
    refine WC.exit ?_
    refine WQ.thenExit ?_
    refine WQ.thenExit ?_
    refine WQ.inExit ?_
    refine WQ.then ?_
    refine hK3 _ _ _ ?_
    refine WC.seq fun K17 hK17 => ?_
    refine WC.region ?_
    refine WL.pure (v := vI (-1)) 4 rfl (Nat.le_of_ble_eq_true rfl) rfl rfl (by kernel_rfl) ?_
    refine WL.nil ?_
    refine WQ.then ?_
    refine hK17 _ _ _ ?_
    refine WC.ret ?_
    refine WQ.ret1 4 rfl rfl ?_
    exact ⟨rfl, HP.below hH7⟩
set_option maxRecDepth 20000 in
set_option maxHeartbeats 4000000 in
theorem contains_any (bb oo s t : Nat) (w : World) (hr : LR w bb oo s t) (hs : 1 ≤ s ∧ s ≤ 50) (ht : 1 ≤ t ∧ t ≤ 50) :
    Calls Try.prog 83 #[.slice (some ⟨bb, oo, none⟩) 2 2, .func (.func 84) #[] #[]] w fun e w' => e = .returned (.bool false) ∧ Below w.heap.size w w' := by
  refine calls_of Try.func83 rfl (m := 9) rfl [(0, .slice (some ⟨bb, oo, none⟩) 2 2), (1, .func (.func 84) #[] #[])] (Fr_enter [.slice (some ⟨bb, oo, none⟩) 2 2, .func (.func 84) #[] #[]] 9 (Nat.le_of_ble_eq_true rfl)) ?_
  have hH1 : HP Tr w w [] := HP.refl w
  refine WC.seq fun K2 hK2 => ?_
  refine WC.region ?_
  refine WL.pure (v := .bool false) 4 rfl (Nat.le_of_ble_eq_true rfl) rfl rfl (by kernel_rfl) ?_
  refine WL.nil ?_
  refine WQ.then ?_
  refine hK2 _ _ _ ?_
  refine WC.seq fun K3 hK3 => ?_
  refine WC.region ?_
  refine WL.pure (v := .slice (some ⟨bb, oo, none⟩) 2 2) 5 rfl (Nat.le_of_ble_eq_true rfl) rfl rfl (by kernel_rfl) ?_
  refine WL.pure (v := .func (.func 84) #[] #[]) 6 rfl (Nat.le_of_ble_eq_true rfl) rfl rfl (by kernel_rfl) ?_
  refine WL.call (f := 89) (args := #[.slice (some ⟨bb, oo, none⟩) 2 2, .func (.func 84) #[] #[]]) 7 rfl (Nat.le_of_ble_eq_true rfl) rfl rfl (by kernel_rfl) ?_
  refine (index_any _ _ s t _ (hr.below (HP.below hH1)) hs ht).mono ?_
  rintro e w4 ⟨rfl, hb5⟩
  refine ⟨_, rfl, ?_⟩
  have hH6 : HP Tr w _ [] := HP.call hH1 hb5
  refine WL.pure (v := .bool false) 8 rfl (Nat.le_of_ble_eq_true rfl) rfl rfl (x_geq rfl rfl rfl (by decide)) ?_
  refine WL.pure (v := .bool false) 4 rfl (Nat.le_of_ble_eq_true rfl) rfl rfl (by kernel_rfl) ?_
  refine WL.nil ?_
  refine WQ.then ?_
  refine hK3 _ _ _ ?_
  refine WC.ret ?_
  refine WQ.ret1 4 rfl rfl ?_
  exact ⟨rfl, HP.below hH6⟩
set_option maxRecDepth 20000 in
set_option maxHeartbeats 4000000 in
theorem bvalid_any (bb oo s t : Nat) (w : World) (hr : LR w bb oo s t) (hs : 1 ≤ s ∧ s ≤ 50) (ht : 1 ≤ t ∧ t ≤ 50) :
    Calls Try.prog 64 #[.slice (some ⟨bb, oo, none⟩) 2 2] w fun e w' => e = .returned (.bool true) ∧ Below w.heap.size w w' := by
  refine calls_of Try.func64 rfl (m := 14) rfl [(0, .slice (some ⟨bb, oo, none⟩) 2 2)] (Fr_enter [.slice (some ⟨bb, oo, none⟩) 2 2] 14 (Nat.le_of_ble_eq_true rfl)) ?_
  have hH1 : HP Tr w w [] := HP.refl w
  refine WC.seq fun K2 hK2 => ?_
  refine WC.region ?_
  refine WL.pure (v := .bool false) 2 rfl (Nat.le_of_ble_eq_true rfl) rfl rfl (by kernel_rfl) ?_
  refine WL.nil ?_
  refine WQ.then ?_
  refine hK2 _ _ _ ?_
  refine WC.seq fun K3 hK3 => ?_
  refine WC.seq fun K4 hK4 => ?_
  refine WC.region ?_
  refine WL.pure (v := .slice (some ⟨bb, oo, none⟩) 2 2) 3 rfl (Nat.le_of_ble_eq_true rfl) rfl rfl (by kernel_rfl) ?_
  refine WL.pure (v := vI 2) 4 rfl (Nat.le_of_ble_eq_true rfl) rfl rfl (by kernel_rfl) ?_
  refine WL.pure (v := .bool false) 5 rfl (Nat.le_of_ble_eq_true rfl) rfl rfl (x_lss rfl rfl rfl (by decide)) ?_
  refine WL.pure (v := .bool false) 6 rfl (Nat.le_of_ble_eq_true rfl) rfl rfl (by kernel_rfl) ?_
  refine WL.pure (v := .slice (some ⟨bb, oo, none⟩) 2 2) 7 rfl (Nat.le_of_ble_eq_true rfl) rfl rfl (by kernel_rfl) ?_
  refine WL.pure (v := vI 2) 8 rfl (Nat.le_of_ble_eq_true rfl) rfl rfl (by kernel_rfl) ?_
  refine WL.pure (v := .bool false) 9 rfl (Nat.le_of_ble_eq_true rfl) rfl rfl (x_gtr rfl rfl rfl (by decide)) ?_
  refine WL.pure (v := .bool false) 10 rfl (Nat.le_of_ble_eq_true rfl) rfl rfl (by kernel_rfl) ?_
  refine WL.nil ?_
  refine WQ.then ?_
  refine hK4 _ _ _ ?_
  refine WC.sub (l' := [(0, .slice (some ⟨bb, oo, none⟩) 2 2), (2, .bool false), (10, .bool false)]) ⟨rfl, rfl, rfl, trivial⟩ ?_
  refine WC.no rfl ?_
  refine WC.skip ?_
  refine WQ.then ?_
  refine hK3 _ _ _ ?_
  refine WC.seq fun K5 hK5 => ?_
  refine WC.region ?_
  refine WL.pure (v := .slice (some ⟨bb, oo, none⟩) 2 2) 11 rfl (Nat.le_of_ble_eq_true rfl) rfl rfl (by kernel_rfl) ?_
  refine WL.call (f := 83) (args := #[.slice (some ⟨bb, oo, none⟩) 2 2, .func (.func 84) #[] #[]]) 12 rfl (Nat.le_of_ble_eq_true rfl) rfl rfl (by kernel_rfl) ?_
  refine (contains_any _ _ s t _ (hr.below (HP.below hH1)) hs ht).mono ?_
  rintro e w6 ⟨rfl, hb7⟩
  refine ⟨_, rfl, ?_⟩
  have hH8 : HP Tr w _ [] := HP.call hH1 hb7
  refine WL.pure (v := .bool true) 13 rfl (Nat.le_of_ble_eq_true rfl) rfl rfl (by kernel_rfl) ?_
  refine WL.pure (v := .bool true) 2 rfl (Nat.le_of_ble_eq_true rfl) rfl rfl (by kernel_rfl) ?_
  refine WL.nil ?_
  refine WQ.then ?_
  refine hK5 _ _ _ ?_
  refine WC.ret ?_
  refine WQ.ret1 2 rfl rfl ?_
  exact ⟨rfl, HP.below hH8⟩
set_option maxRecDepth 20000 in
set_option maxHeartbeats 4000000 in
theorem period_any (po : Option Addr) (co g0 c0 g1 c1 s t : Nat) (w : World) :
    Calls Try.prog 81 #[.agg #[.slice po (s + t) co, vS g0 s c0, vS g1 t c1, .slice none 0 0, .slice none 0 0]] w fun e w' => e = .returned (.int .i64 ((s + t : Nat) : Int)) ∧ Below w.heap.size w w' := by
  refine calls_of Try.func81 rfl (m := 6) rfl [(0, .agg #[.slice po (s + t) co, vS g0 s c0, vS g1 t c1, .slice none 0 0, .slice none 0 0])] (Fr_enter [.agg #[.slice po (s + t) co, vS g0 s c0, vS g1 t c1, .slice none 0 0, .slice none 0 0]] 6 (Nat.le_of_ble_eq_true rfl)) ?_
  have hH1 : HP Tr w w [] := HP.refl w
  refine WC.seq fun K2 hK2 => ?_
  refine WC.region ?_
  refine WL.alloc (c := #[.slice po (s + t) co, vS g0 s c0, vS g1 t c1, .slice none 0 0, .slice none 0 0]) (T := 71) hH1 1 rfl (by decide) rfl rfl (fun b3 => vP b3 0) (by kernel_rfl) (fun b3 w4 hw4 => ?_)
  have hH5 : HP Tr w w4 [.cel b3 #[.slice po (s + t) co, vS g0 s c0, vS g1 t c1, .slice none 0 0, .slice none 0 0] 71] := hw4.2
  have nb3 := hw4.1
  clear hw4
  refine WL.pure (v := vI 0) 2 rfl (Nat.le_of_ble_eq_true rfl) rfl rfl (by kernel_rfl) ?_
  refine WL.nil ?_
  refine WQ.then ?_
  refine hK2 _ _ _ ?_
  refine WC.seq fun K6 hK6 => ?_
  refine WC.region ?_
  refine WL.pure (v := vP b3 0) 3 rfl (Nat.le_of_ble_eq_true rfl) rfl rfl (by kernel_rfl) ?_
  refine WL.pure (v := .slice po (s + t) co) 4 rfl (Nat.le_of_ble_eq_true rfl) rfl rfl (x_load rfl rfl Try.underlying68 rfl (HP.cell hH5 0 rfl rfl)) ?_
  refine WL.pure (v := vI (((s + t) : Nat) : Int)) 5 rfl (Nat.le_of_ble_eq_true rfl) rfl rfl (by kernel_rfl) ?_
  refine WL.pure (v := vI (((s + t) : Nat) : Int)) 2 rfl (Nat.le_of_ble_eq_true rfl) rfl rfl (by kernel_rfl) ?_
  refine WL.nil ?_
  refine WQ.then ?_
  refine hK6 _ _ _ ?_
  refine WC.ret ?_
  refine WQ.ret1 2 rfl rfl ?_
  exact ⟨rfl, HP.below hH5⟩
set_option maxRecDepth 20000 in
set_option maxHeartbeats 4000000 in
theorem search_any (g a M cap : Nat) (x : Int) (w : World) (hrow : RR w g a M) (hM : M ≤ 1000) (ha : a ≤ 1000) :
    Calls Try.prog 88 #[vS g M cap, vI x] w fun e w' => ∃ (k : Nat) (fb : Bool), e = .returned (.tuple #[.int .i64 (k : Int), .bool fb]) ∧ k ≤ M ∧ (0 < k → ((a + k : Nat) : Int) - 1 < x) ∧ (k < M → x ≤ ((a + k : Nat) : Int)) ∧ Below w.heap.size w w' := by
  refine calls_of Try.func88 rfl (m := 54) rfl [(0, vS g M cap), (1, vI x)] (Fr_enter [vS g M cap, vI x] 54 (Nat.le_of_ble_eq_true rfl)) ?_
  have hH1 : HP Tr w w [] := HP.refl w
  refine WC.seq fun K2 hK2 => ?_
  refine WC.region ?_
  refine WL.pure (v := vI 0) 4 rfl (Nat.le_of_ble_eq_true rfl) rfl rfl (by kernel_rfl) ?_
  refine WL.pure (v := .bool false) 5 rfl (Nat.le_of_ble_eq_true rfl) rfl rfl (by kernel_rfl) ?_
  refine WL.nil ?_
  refine WQ.then ?_
  refine hK2 _ _ _ ?_
  refine WC.seq fun K3 hK3 => ?_
  refine WC.region ?_
  refine WL.pure (v := vS g M cap) 10 rfl (Nat.le_of_ble_eq_true rfl) rfl rfl (by kernel_rfl) ?_
  refine WL.pure (v := vI (M : Int)) 11 rfl (Nat.le_of_ble_eq_true rfl) rfl rfl (by kernel_rfl) ?_
  refine WL.pure (v := vI (M : Int)) 6 rfl (Nat.le_of_ble_eq_true rfl) rfl rfl (by kernel_rfl) ?_
  refine WL.nil ?_
  refine WQ.then ?_
  refine hK3 _ _ _ ?_
  refine WC.seq fun K4 hK4 => ?_
  refine WC.region ?_
  refine WL.pure (v := vI (M : Int)) 12 rfl (Nat.le_of_ble_eq_true rfl) rfl rfl (by kernel_rfl) ?_
  refine WL.pure (v := vI 0) 7 rfl (Nat.le_of_ble_eq_true rfl) rfl rfl (by kernel_rfl) ?_
  refine WL.pure (v := vI (M : Int)) 8 rfl (Nat.le_of_ble_eq_true rfl) rfl rfl (by kernel_rfl) ?_
  refine WL.nil ?_
  refine WQ.then ?_
  refine hK4 _ _ _ ?_
  refine WC.seq fun K5 hK5 => ?_
  refine WC.block ?_
  refine WC.loop (fun kk0 ll0 ww0 => ∃ (i : Nat) (j : Nat), ll0 = [(0, vS g M cap), (1, vI x), (6, vI (M : Int)), (7, vI (i : Int)), (8, vI (j : Int))] ∧ kk0 = j - i ∧ (i ≤ j) ∧ (j ≤ M) ∧ (0 < i → ((a + i : Nat) : Int) - 1 < x) ∧ (j < M → x ≤ ((a + j : Nat) : Int)) ∧ HP Tr w ww0 []) (M) [(0, vS g M cap), (1, vI x), (6, vI (M : Int)), (7, vI 0), (8, vI (M : Int))] ⟨rfl, rfl, rfl, rfl, rfl, trivial⟩ ⟨0, M, rfl, rfl, Nat.zero_le _, Nat.le_refl _, fun q => absurd q (by omega), fun q => absurd q (by omega), hH1⟩ ?_
  rintro kk l w7 ⟨i, j, rfl, hkk, hij, hjM, hj2, hj3, hH8⟩ K6 hK6
  refine WC.seq fun K9 hK9 => ?_
  refine WC.seq fun K10 hK10 => ?_
  refine WC.region ?_
  refine WL.pure (v := vI (i : Int)) 13 rfl (Nat.le_of_ble_eq_true rfl) rfl rfl (by kernel_rfl) ?_
  refine WL.pure (v := vI (j : Int)) 14 rfl (Nat.le_of_ble_eq_true rfl) rfl rfl (by kernel_rfl) ?_
  by_cases hlt : (i : Int) < (j : Int)
  ·
    refine WL.pure (v := .bool true) 15 rfl (Nat.le_of_ble_eq_true rfl) rfl rfl (x_lss rfl rfl rfl (dT (hlt))) ?_
    refine WL.nil ?_
    refine WQ.then ?_
    refine hK10 _ _ _ ?_
    refine WC.yes rfl ?_
    refine WC.skip ?_
    refine WQ.then ?_
    refine hK9 _ _ _ ?_
    refine WC.block ?_
    refine WC.seq fun K11 hK11 => ?_
    refine WC.region ?_
    refine WL.pure (v := vI (i : Int)) 16 rfl (Nat.le_of_ble_eq_true rfl) rfl rfl (by kernel_rfl) ?_
    refine WL.pure (v := vI (j : Int)) 17 rfl (Nat.le_of_ble_eq_true rfl) rfl rfl (by kernel_rfl) ?_
    refine WL.pure (v := vI ((i + j : Nat) : Int)) 18 rfl (Nat.le_of_ble_eq_true rfl) rfl rfl (x_add (Z := ((i + j : Nat) : Int)) rfl rfl rfl (by omega) (by omega) (by omega)) ?_
    refine WL.pure (v := .int .u64 ((i + j : Nat) : Int)) 19 rfl (Nat.le_of_ble_eq_true rfl) rfl rfl (x_convI rfl rfl (by kernel_rfl) (by kernel_rfl) (by kernel_rfl) (by rw [IntKind.wrap_u64]; omega)) ?_
    refine WL.pure (v := .int .u64 (((i + j : Nat) : Int) / 2)) 20 rfl (Nat.le_of_ble_eq_true rfl) rfl rfl (x_shr1 rfl rfl rfl (by decide)) ?_
    refine WL.pure (v := vI (((i + j) / 2 : Nat) : Int)) 21 rfl (Nat.le_of_ble_eq_true rfl) rfl rfl (x_convI rfl rfl (by kernel_rfl) (by kernel_rfl) (by kernel_rfl) (by rw [IntKind.wrap_i64]; omega)) ?_
    refine WL.pure (v := vI (((i + j) / 2 : Nat) : Int)) 9 rfl (Nat.le_of_ble_eq_true rfl) rfl rfl (by kernel_rfl) ?_
    refine WL.nil ?_
    refine WQ.then ?_
    refine hK11 _ _ _ ?_
    refine WC.sub (l' := [(0, vS g M cap), (1, vI x), (6, vI (M : Int)), (7, vI (i : Int)), (8, vI (j : Int)), (9, vI (((i + j) / 2 : Nat) : Int)), (15, .bool true)]) ⟨rfl, rfl, rfl, rfl, rfl, rfl, rfl, trivial⟩ ?_
    refine WC.seq fun K12 hK12 => ?_
    refine WC.region ?_
    refine WL.pure (v := vS g M cap) 22 rfl (Nat.le_of_ble_eq_true rfl) rfl rfl (by kernel_rfl) ?_
    refine WL.pure (v := vI (((i + j) / 2 : Nat) : Int)) 23 rfl (Nat.le_of_ble_eq_true rfl) rfl rfl (by kernel_rfl) ?_
    refine WL.pure (v := vP g ((i + j) / 2)) 24 rfl (Nat.le_of_ble_eq_true rfl) rfl rfl (x_idx ((i + j) / 2) ((i + j) / 2) rfl rfl rfl Try.underlying68 sz3 (by omega) (by omega) (by omega)) ?_
    refine WL.pure (v := vI ((a + ((i + j) / 2) : Nat) : Int)) 25 rfl (Nat.le_of_ble_eq_true rfl) rfl rfl (x_load rfl rfl Try.underlying3 rfl ((HP.oldRange hH8 trivial (hrow ((i + j) / 2) (by omega))) 0 _ rfl)) ?_
    refine WL.pure (v := vI x) 26 rfl (Nat.le_of_ble_eq_true rfl) rfl rfl (by kernel_rfl) ?_
    refine WL.call (f := 90) (args := #[vI ((a + ((i + j) / 2) : Nat) : Int), vI x]) 27 rfl (Nat.le_of_ble_eq_true rfl) rfl rfl (by kernel_rfl) ?_
    refine (less90_any _ _ _).mono ?_
    rintro e w13 ⟨rfl, rfl⟩
    refine ⟨_, rfl, ?_⟩
    refine WL.nil ?_
    refine WQ.then ?_
    refine hK12 _ _ _ ?_
    rcases Bool.eq_false_or_eq_true (decide (((a + ((i + j) / 2) : Nat) : Int) < x)) with hL | hL
    ·
      refine WC.yes (congrArg (fun b => some (Value.bool b)) hL) ?_
      refine WC.region ?_
      refine WL.pure (v := vI (((i + j) / 2 : Nat) : Int)) 28 rfl (Nat.le_of_ble_eq_true rfl) rfl rfl (by kernel_rfl) ?_
      refine WL.pure (v := vI (((i + j) / 2 + 1 : Nat) : Int)) 29 rfl (Nat.le_of_ble_eq_true rfl) rfl rfl (x_add (Z := (((i + j) / 2 + 1 : Nat) : Int)) rfl rfl rfl (by omega) (by omega) (by omega)) ?_
      refine WL.pure (v := vI (((i + j) / 2 + 1 : Nat) : Int)) 7 rfl (Nat.le_of_ble_eq_true rfl) rfl rfl (by kernel_rfl) ?_
      refine WL.nil ?_
      refine WQ.inNormal ?_
      refine WQ.sub (l' := [(0, vS g M cap), (1, vI x), (6, vI (M : Int)), (7, vI (((i + j) / 2 + 1 : Nat) : Int)), (8, vI (j : Int))]) ⟨rfl, rfl, rfl, rfl, rfl, trivial⟩ ?_
      refine WQ.then (hK6 _ _ _ (by omega) ⟨(i + j) / 2 + 1, j, rfl, rfl, by omega, by omega, fun _ => by have := of_decide_eq_true hL; omega, hj3, hH8⟩)
    ·
      refine WC.no (congrArg (fun b => some (Value.bool b)) hL) ?_
      refine WC.region ?_
      refine WL.pure (v := vI (((i + j) / 2 : Nat) : Int)) 30 rfl (Nat.le_of_ble_eq_true rfl) rfl rfl (by kernel_rfl) ?_
      refine WL.pure (v := vI (((i + j) / 2 : Nat) : Int)) 8 rfl (Nat.le_of_ble_eq_true rfl) rfl rfl (by kernel_rfl) ?_
      refine WL.nil ?_
      refine WQ.inNormal ?_
      refine WQ.sub (l' := [(0, vS g M cap), (1, vI x), (6, vI (M : Int)), (7, vI (i : Int)), (8, vI (((i + j) / 2 : Nat) : Int))]) ⟨rfl, rfl, rfl, rfl, rfl, trivial⟩ ?_
      refine WQ.then (hK6 _ _ _ (by omega) ⟨i, (i + j) / 2, rfl, rfl, by omega, by omega, hj2, fun _ => by have := of_decide_eq_false hL; omega, hH8⟩)
  ·
    refine WL.pure (v := .bool false) 15 rfl (Nat.le_of_ble_eq_true rfl) rfl rfl (x_lss rfl rfl rfl (dF (hlt))) ?_
    refine WL.nil ?_
    refine WQ.then ?_
    refine hK10 _ _ _ ?_
    refine WC.no rfl ?_
    refine WC.exit ?_
    refine WQ.thenExit ?_
    refine WQ.thenExit ?_
    refine WQ.inExit ?_
    refine WQ.then ?_
    refine hK5 _ _ _ ?_
    refine WC.seq fun K14 hK14 => ?_
    refine WC.region ?_
    refine WL.pure (v := vI (i : Int)) 31 rfl (Nat.le_of_ble_eq_true rfl) rfl rfl (by kernel_rfl) ?_
    refine WL.pure (v := vI (i : Int)) 32 rfl (Nat.le_of_ble_eq_true rfl) rfl rfl (by kernel_rfl) ?_
    refine WL.pure (v := vI (M : Int)) 33 rfl (Nat.le_of_ble_eq_true rfl) rfl rfl (by kernel_rfl) ?_
    by_cases hi : (i : Int) < (M : Int)
    ·
      refine WL.pure (v := .bool true) 34 rfl (Nat.le_of_ble_eq_true rfl) rfl rfl (x_lss rfl rfl rfl (dT (hi))) ?_
      refine WL.pure (v := .bool true) 35 rfl (Nat.le_of_ble_eq_true rfl) rfl rfl (by kernel_rfl) ?_
      refine WL.pure (v := vS g M cap) 36 rfl (Nat.le_of_ble_eq_true rfl) rfl rfl (by kernel_rfl) ?_
      refine WL.pure (v := vI (i : Int)) 37 rfl (Nat.le_of_ble_eq_true rfl) rfl rfl (by kernel_rfl) ?_
      refine WL.pure (v := vP g i) 38 rfl (Nat.le_of_ble_eq_true rfl) rfl rfl (x_idx (i) (i) rfl rfl rfl Try.underlying68 sz3 (by omega) (by omega) (by omega)) ?_
      refine WL.pure (v := vI ((a + i : Nat) : Int)) 39 rfl (Nat.le_of_ble_eq_true rfl) rfl rfl (x_load rfl rfl Try.underlying3 rfl ((HP.oldRange hH8 trivial (hrow i (by omega))) 0 _ rfl)) ?_
      refine WL.pure (v := vI x) 40 rfl (Nat.le_of_ble_eq_true rfl) rfl rfl (by kernel_rfl) ?_
      by_cases hq : ((a + i : Nat) : Int) = x
      ·
        refine WL.pure (v := .bool true) 41 rfl (Nat.le_of_ble_eq_true rfl) rfl rfl (x_eql rfl rfl rfl (dT (hq))) ?_
        refine WL.pure (v := .bool true) 42 rfl (Nat.le_of_ble_eq_true rfl) rfl rfl (by kernel_rfl) ?_
        refine WL.pass 43 rfl (Nat.le_of_ble_eq_true rfl) rfl ?_
        refine WL.pass 44 rfl (Nat.le_of_ble_eq_true rfl) rfl ?_
        refine WL.pass 45 rfl (Nat.le_of_ble_eq_true rfl) rfl ?_
        refine WL.pass 46 rfl (Nat.le_of_ble_eq_true rfl) rfl ?_
        refine WL.pass 47 rfl (Nat.le_of_ble_eq_true rfl) rfl ?_
        refine WL.pass 48 rfl (Nat.le_of_ble_eq_true rfl) rfl ?_
        refine WL.pass 49 rfl (Nat.le_of_ble_eq_true rfl) rfl ?_
        refine WL.pass 50 rfl (Nat.le_of_ble_eq_true rfl) rfl ?_
        refine WL.pass 51 rfl (Nat.le_of_ble_eq_true rfl) rfl ?_
        refine WL.pure (v := .bool true) 52 rfl (Nat.le_of_ble_eq_true rfl) rfl rfl (by kernel_rfl) ?_
        refine WL.pure (v := .bool true) 53 rfl (Nat.le_of_ble_eq_true rfl) rfl rfl (by kernel_rfl) ?_
        refine WL.pure (v := vI (i : Int)) 4 rfl (Nat.le_of_ble_eq_true rfl) rfl rfl (by kernel_rfl) ?_
        refine WL.pure (v := .bool true) 5 rfl (Nat.le_of_ble_eq_true rfl) rfl rfl (by kernel_rfl) ?_
        refine WL.nil ?_
        refine WQ.then ?_
        refine hK14 _ _ _ ?_
        refine WC.sub (l' := [(0, vS g M cap), (1, vI x), (4, vI (i : Int)), (5, .bool true), (6, vI (M : Int)), (7, vI (i : Int)), (8, vI (j : Int)), (15, .bool false)]) ⟨rfl, rfl, rfl, rfl, rfl, rfl, rfl, rfl, trivial⟩ ?_
        refine WC.ret ?_
        refine WQ.ret2 4 5 rfl rfl rfl ?_
        obtain rfl : i = j := by omega
        exact ⟨i, _, rfl, by omega, hj2, hj3, HP.below hH8⟩
      ·
        refine WL.pure (v := .bool false) 41 rfl (Nat.le_of_ble_eq_true rfl) rfl rfl (x_eql rfl rfl rfl (dF (hq))) ?_
        refine WL.pure (v := .bool false) 42 rfl (Nat.le_of_ble_eq_true rfl) rfl rfl (by kernel_rfl) ?_
        refine WL.pure (v := vS g M cap) 43 rfl (Nat.le_of_ble_eq_true rfl) rfl rfl (by kernel_rfl) ?_
        refine WL.pure (v := vI (i : Int)) 44 rfl (Nat.le_of_ble_eq_true rfl) rfl rfl (by kernel_rfl) ?_
        refine WL.pure (v := vP g i) 45 rfl (Nat.le_of_ble_eq_true rfl) rfl rfl (x_idx (i) (i) rfl rfl rfl Try.underlying68 sz3 (by omega) (by omega) (by omega)) ?_
        refine WL.pure (v := vI ((a + i : Nat) : Int)) 46 rfl (Nat.le_of_ble_eq_true rfl) rfl rfl (x_load rfl rfl Try.underlying3 rfl ((HP.oldRange hH8 trivial (hrow i (by omega))) 0 _ rfl)) ?_
        refine WL.call (f := 91) (args := #[vI ((a + i : Nat) : Int)]) 47 rfl (Nat.le_of_ble_eq_true rfl) rfl rfl (by kernel_rfl) ?_
        refine (isNaN2_any _ _).mono ?_
        rintro e w15 ⟨rfl, rfl⟩
        refine ⟨_, rfl, ?_⟩
        refine WL.pure (v := .bool false) 48 rfl (Nat.le_of_ble_eq_true rfl) rfl rfl (by kernel_rfl) ?_
        refine WL.pass 49 rfl (Nat.le_of_ble_eq_true rfl) rfl ?_
        refine WL.pass 50 rfl (Nat.le_of_ble_eq_true rfl) rfl ?_
        refine WL.pure (v := .bool false) 51 rfl (Nat.le_of_ble_eq_true rfl) rfl rfl (by kernel_rfl) ?_
        refine WL.pure (v := .bool false) 52 rfl (Nat.le_of_ble_eq_true rfl) rfl rfl (by kernel_rfl) ?_
        refine WL.pure (v := .bool false) 53 rfl (Nat.le_of_ble_eq_true rfl) rfl rfl (by kernel_rfl) ?_
        refine WL.pure (v := vI (i : Int)) 4 rfl (Nat.le_of_ble_eq_true rfl) rfl rfl (by kernel_rfl) ?_
        refine WL.pure (v := .bool false) 5 rfl (Nat.le_of_ble_eq_true rfl) rfl rfl (by kernel_rfl) ?_
        refine WL.nil ?_
        refine WQ.then ?_
        refine hK14 _ _ _ ?_
        refine WC.sub (l' := [(0, vS g M cap), (1, vI x), (4, vI (i : Int)), (5, .bool false), (6, vI (M : Int)), (7, vI (i : Int)), (8, vI (j : Int)), (15, .bool false)]) ⟨rfl, rfl, rfl, rfl, rfl, rfl, rfl, rfl, trivial⟩ ?_
        refine WC.ret ?_
        refine WQ.ret2 4 5 rfl rfl rfl ?_
        obtain rfl : i = j := by omega
        exact ⟨i, _, rfl, by omega, hj2, hj3, HP.below hH8⟩
    ·
      refine WL.pure (v := .bool false) 34 rfl (Nat.le_of_ble_eq_true rfl) rfl rfl (x_lss rfl rfl rfl (dF (hi))) ?_
      refine WL.pure (v := .bool false) 35 rfl (Nat.le_of_ble_eq_true rfl) rfl rfl (by kernel_rfl) ?_
      refine WL.pass 36 rfl (Nat.le_of_ble_eq_true rfl) rfl ?_
      refine WL.pass 37 rfl (Nat.le_of_ble_eq_true rfl) rfl ?_
      refine WL.pass 38 rfl (Nat.le_of_ble_eq_true rfl) rfl ?_
      refine WL.pass 39 rfl (Nat.le_of_ble_eq_true rfl) rfl ?_
      refine WL.pass 40 rfl (Nat.le_of_ble_eq_true rfl) rfl ?_
      refine WL.pass 41 rfl (Nat.le_of_ble_eq_true rfl) rfl ?_
      refine WL.pass 42 rfl (Nat.le_of_ble_eq_true rfl) rfl ?_
      refine WL.pass 43 rfl (Nat.le_of_ble_eq_true rfl) rfl ?_
      refine WL.pass 44 rfl (Nat.le_of_ble_eq_true rfl) rfl ?_
      refine WL.pass 45 rfl (Nat.le_of_ble_eq_true rfl) rfl ?_
      refine WL.pass 46 rfl (Nat.le_of_ble_eq_true rfl) rfl ?_
      refine WL.pass 47 rfl (Nat.le_of_ble_eq_true rfl) rfl ?_
      refine WL.pass 48 rfl (Nat.le_of_ble_eq_true rfl) rfl ?_
      refine WL.pass 49 rfl (Nat.le_of_ble_eq_true rfl) rfl ?_
      refine WL.pass 50 rfl (Nat.le_of_ble_eq_true rfl) rfl ?_
      refine WL.pass 51 rfl (Nat.le_of_ble_eq_true rfl) rfl ?_
      refine WL.pass 52 rfl (Nat.le_of_ble_eq_true rfl) rfl ?_
      refine WL.pure (v := .bool false) 53 rfl (Nat.le_of_ble_eq_true rfl) rfl rfl (by kernel_rfl) ?_
      refine WL.pure (v := vI (i : Int)) 4 rfl (Nat.le_of_ble_eq_true rfl) rfl rfl (by kernel_rfl) ?_
      refine WL.pure (v := .bool false) 5 rfl (Nat.le_of_ble_eq_true rfl) rfl rfl (by kernel_rfl) ?_
      refine WL.nil ?_
      refine WQ.then ?_
      refine hK14 _ _ _ ?_
      refine WC.sub (l' := [(0, vS g M cap), (1, vI x), (4, vI (i : Int)), (5, .bool false), (6, vI (M : Int)), (7, vI (i : Int)), (8, vI (j : Int)), (15, .bool false)]) ⟨rfl, rfl, rfl, rfl, rfl, rfl, rfl, rfl, trivial⟩ ?_
      refine WC.ret ?_
      refine WQ.ret2 4 5 rfl rfl rfl ?_
      obtain rfl : i = j := by omega
      exact ⟨i, _, rfl, by omega, hj2, hj3, HP.below hH8⟩
set_option maxRecDepth 20000 in
set_option maxHeartbeats 4000000 in
theorem before0_any (po : Option Addr) (co g0 c0 g1 c1 s t : Nat) (m : Int) (w : World) (h0 : RR w g0 0 s) (h1 : RR w g1 s t) (hs : 1 ≤ s ∧ s ≤ 50) (ht : 1 ≤ t ∧ t ≤ 50) (hm0 : 0 ≤ m) (hm1 : m ≤ 1000000) :
    Calls Try.prog 82 #[.agg #[.slice po (s + t) co, vS g0 s c0, vS g1 t c1, .slice none 0 0, .slice none 0 0], vI 0, vI m] w fun e w' => e = .returned (.int .i64 (ad ((s + t : Nat) : Int) (0 : Int) (s : Int) m)) ∧ Below w.heap.size w w' := by
  refine calls_of Try.func82 rfl (m := 32) rfl [(0, .agg #[.slice po (s + t) co, vS g0 s c0, vS g1 t c1, .slice none 0 0, .slice none 0 0]), (1, vI 0), (2, vI m)] (Fr_enter [.agg #[.slice po (s + t) co, vS g0 s c0, vS g1 t c1, .slice none 0 0, .slice none 0 0], vI 0, vI m] 32 (Nat.le_of_ble_eq_true rfl)) ?_
  have hH1 : HP Tr w w [] := HP.refl w
  refine WC.seq fun K2 hK2 => ?_
  refine WC.region ?_
  refine WL.alloc (c := #[.slice po (s + t) co, vS g0 s c0, vS g1 t c1, .slice none 0 0, .slice none 0 0]) (T := 71) hH1 3 rfl (by decide) rfl rfl (fun b3 => vP b3 0) (by kernel_rfl) (fun b3 w4 hw4 => ?_)
  have hH5 : HP Tr w w4 [.cel b3 #[.slice po (s + t) co, vS g0 s c0, vS g1 t c1, .slice none 0 0, .slice none 0 0] 71] := hw4.2
  have nb3 := hw4.1
  clear hw4
  refine WL.pure (v := vI 0) 6 rfl (Nat.le_of_ble_eq_true rfl) rfl rfl (by kernel_rfl) ?_
  refine WL.nil ?_
  refine WQ.then ?_
  refine hK2 _ _ _ ?_
  refine WC.seq fun K6 hK6 => ?_
  refine WC.region ?_
  refine WL.pure (v := vI 0) 10 rfl (Nat.le_of_ble_eq_true rfl) rfl rfl (by kernel_rfl) ?_
  refine WL.pure (v := vP b3 1) 11 rfl (Nat.le_of_ble_eq_true rfl) rfl rfl (by kernel_rfl) ?_
  refine WL.pure (v := vP b3 1) 12 rfl (Nat.le_of_ble_eq_true rfl) rfl rfl (x_idxArr (0) (1) rfl rfl rfl Try.underlying69 sz68 (by omega) (by omega) (by omega)) ?_
  refine WL.pure (v := vS g0 s c0) 13 rfl (Nat.le_of_ble_eq_true rfl) rfl rfl (x_load rfl rfl Try.underlying68 rfl (HP.cell hH5 0 rfl rfl)) ?_
  refine WL.pure (v := vS g0 s c0) 7 rfl (Nat.le_of_ble_eq_true rfl) rfl rfl (by kernel_rfl) ?_
  refine WL.nil ?_
  refine WQ.then ?_
  refine hK6 _ _ _ ?_
  refine WC.seq fun K7 hK7 => ?_
  refine WC.region ?_
  refine WL.pure (v := vS g0 s c0) 15 rfl (Nat.le_of_ble_eq_true rfl) rfl rfl (by kernel_rfl) ?_
  refine WL.pure (v := vI m) 16 rfl (Nat.le_of_ble_eq_true rfl) rfl rfl (by kernel_rfl) ?_
  refine WL.pure (v := .agg #[.slice po (s + t) co, vS g0 s c0, vS g1 t c1, .slice none 0 0, .slice none 0 0]) 17 rfl (Nat.le_of_ble_eq_true rfl) rfl rfl (x_loadS (cs := [.slice po (s + t) co, vS g0 s c0, vS g1 t c1, .slice none 0 0, .slice none 0 0]) rfl rfl Try.underlying71 rfl sz71 (HP.range hH5 0 rfl rfl)) ?_
  refine WL.call (f := 81) (args := #[.agg #[.slice po (s + t) co, vS g0 s c0, vS g1 t c1, .slice none 0 0, .slice none 0 0]]) 18 rfl (Nat.le_of_ble_eq_true rfl) rfl rfl (by kernel_rfl) ?_
  refine (period_any po co g0 c0 g1 c1 s t _).mono ?_
  rintro e w8 ⟨rfl, hb9⟩
  refine ⟨_, rfl, ?_⟩
  have hH10 : HP Tr w _ [.cel b3 #[.slice po (s + t) co, vS g0 s c0, vS g1 t c1, .slice none 0 0, .slice none 0 0] 71] := HP.call hH5 hb9
  refine WL.pure (v := vI (m % ((s + t : Nat) : Int))) 19 rfl (Nat.le_of_ble_eq_true rfl) rfl rfl (x_rem (Z := m % ((s + t : Nat) : Int)) rfl rfl rfl (by omega) (tmod_pos (by omega))) ?_
  refine WL.call (f := 88) (args := #[vS g0 s c0, vI (m % ((s + t : Nat) : Int))]) 20 rfl (Nat.le_of_ble_eq_true rfl) rfl rfl (by kernel_rfl) ?_
  refine (search_any _ 0 s _ _ _ (h0.below (HP.below hH10)) (by omega) (by omega)).mono ?_
  rintro e w11 ⟨k, fb, rfl, hk1, hk2, hk3, hb12⟩
  refine ⟨_, rfl, ?_⟩
  have hH13 : HP Tr w _ [.cel b3 #[.slice po (s + t) co, vS g0 s c0, vS g1 t c1, .slice none 0 0, .slice none 0 0] 71] := HP.call hH10 hb12
  have hmod := Int.emod_lt_of_pos m (show (0 : Int) < ((s + t : Nat) : Int) by omega)
  have hkk : (k : Int) = min (max (m % ((s + t : Nat) : Int) - (0 : Int)) 0) (s : Int) := by omega
  obtain ⟨d1, d2⟩ := divB hm0 hm1 (show (1 : Int) ≤ ((s + t : Nat) : Int) by omega)
  obtain ⟨e1, e2⟩ := mulB d1 d2 (show (0 : Int) ≤ (s : Int) by omega) (show (s : Int) ≤ 50 by omega)
  refine WL.pure (v := .tuple #[vI (k : Int), .bool fb]) 14 rfl (Nat.le_of_ble_eq_true rfl) rfl rfl (by kernel_rfl) ?_
  refine WL.pure (v := vI (k : Int)) 21 rfl (Nat.le_of_ble_eq_true rfl) rfl rfl (by kernel_rfl) ?_
  refine WL.pure (v := .bool fb) 22 rfl (Nat.le_of_ble_eq_true rfl) rfl rfl (by kernel_rfl) ?_
  refine WL.pure (v := vI (k : Int)) 8 rfl (Nat.le_of_ble_eq_true rfl) rfl rfl (by kernel_rfl) ?_
  refine WL.pure (v := .bool fb) 9 rfl (Nat.le_of_ble_eq_true rfl) rfl rfl (by kernel_rfl) ?_
  refine WL.nil ?_
  refine WQ.then ?_
  refine hK7 _ _ _ ?_
  refine WC.sub (l' := [(0, .agg #[.slice po (s + t) co, vS g0 s c0, vS g1 t c1, .slice none 0 0, .slice none 0 0]), (1, vI 0), (2, vI m), (3, vP b3 0), (6, vI 0), (7, vS g0 s c0), (8, vI (k : Int))]) ⟨rfl, rfl, rfl, rfl, rfl, rfl, rfl, trivial⟩ ?_
  refine WC.seq fun K14 hK14 => ?_
  refine WC.region ?_
  refine WL.pure (v := vI m) 23 rfl (Nat.le_of_ble_eq_true rfl) rfl rfl (by kernel_rfl) ?_
  refine WL.pure (v := .agg #[.slice po (s + t) co, vS g0 s c0, vS g1 t c1, .slice none 0 0, .slice none 0 0]) 24 rfl (Nat.le_of_ble_eq_true rfl) rfl rfl (x_loadS (cs := [.slice po (s + t) co, vS g0 s c0, vS g1 t c1, .slice none 0 0, .slice none 0 0]) rfl rfl Try.underlying71 rfl sz71 (HP.range hH13 0 rfl rfl)) ?_
  refine WL.call (f := 81) (args := #[.agg #[.slice po (s + t) co, vS g0 s c0, vS g1 t c1, .slice none 0 0, .slice none 0 0]]) 25 rfl (Nat.le_of_ble_eq_true rfl) rfl rfl (by kernel_rfl) ?_
  refine (period_any po co g0 c0 g1 c1 s t _).mono ?_
  rintro e w15 ⟨rfl, hb16⟩
  refine ⟨_, rfl, ?_⟩
  have hH17 : HP Tr w _ [.cel b3 #[.slice po (s + t) co, vS g0 s c0, vS g1 t c1, .slice none 0 0, .slice none 0 0] 71] := HP.call hH13 hb16
  refine WL.pure (v := vI (m / ((s + t : Nat) : Int))) 26 rfl (Nat.le_of_ble_eq_true rfl) rfl rfl (x_quo (Z := m / ((s + t : Nat) : Int)) rfl rfl rfl (by omega) (tdiv_pos (by omega) (by omega)) (by omega) (by omega)) ?_
  refine WL.pure (v := vS g0 s c0) 27 rfl (Nat.le_of_ble_eq_true rfl) rfl rfl (by kernel_rfl) ?_
  refine WL.pure (v := vI (s : Int)) 28 rfl (Nat.le_of_ble_eq_true rfl) rfl rfl (by kernel_rfl) ?_
  refine WL.pure (v := vI ((m / ((s + t : Nat) : Int)) * (s : Int))) 29 rfl (Nat.le_of_ble_eq_true rfl) rfl rfl (x_mul (Z := (m / ((s + t : Nat) : Int)) * (s : Int)) rfl rfl rfl (by omega) (by omega) (by omega)) ?_
  refine WL.pure (v := vI (k : Int)) 30 rfl (Nat.le_of_ble_eq_true rfl) rfl rfl (by kernel_rfl) ?_
  refine WL.pure (v := vI (ad ((s + t : Nat) : Int) (0 : Int) (s : Int) m)) 31 rfl (Nat.le_of_ble_eq_true rfl) rfl rfl (x_add (Z := ad ((s + t : Nat) : Int) (0 : Int) (s : Int) m) rfl rfl rfl (by unfold ad; rw [hkk]) (by unfold ad; rw [← hkk]; omega) (by unfold ad; rw [← hkk]; omega)) ?_
  refine WL.pure (v := vI (ad ((s + t : Nat) : Int) (0 : Int) (s : Int) m)) 6 rfl (Nat.le_of_ble_eq_true rfl) rfl rfl (by kernel_rfl) ?_
  refine WL.nil ?_
  refine WQ.then ?_
  refine hK14 _ _ _ ?_
  refine WC.sub (l' := [(0, .agg #[.slice po (s + t) co, vS g0 s c0, vS g1 t c1, .slice none 0 0, .slice none 0 0]), (1, vI 0), (2, vI m), (3, vP b3 0), (6, vI (ad ((s + t : Nat) : Int) (0 : Int) (s : Int) m)), (7, vS g0 s c0), (8, vI (k : Int))]) ⟨rfl, rfl, rfl, rfl, rfl, rfl, rfl, trivial⟩ ?_
  refine WC.ret ?_
  refine WQ.ret1 6 rfl rfl ?_
  exact ⟨rfl, HP.below hH17⟩
set_option maxRecDepth 20000 in
set_option maxHeartbeats 4000000 in
theorem before1_any (po : Option Addr) (co g0 c0 g1 c1 s t : Nat) (m : Int) (w : World) (h0 : RR w g0 0 s) (h1 : RR w g1 s t) (hs : 1 ≤ s ∧ s ≤ 50) (ht : 1 ≤ t ∧ t ≤ 50) (hm0 : 0 ≤ m) (hm1 : m ≤ 1000000) :
    Calls Try.prog 82 #[.agg #[.slice po (s + t) co, vS g0 s c0, vS g1 t c1, .slice none 0 0, .slice none 0 0], vI 1, vI m] w fun e w' => e = .returned (.int .i64 (ad ((s + t : Nat) : Int) (s : Int) (t : Int) m)) ∧ Below w.heap.size w w' := by
  refine calls_of Try.func82 rfl (m := 32) rfl [(0, .agg #[.slice po (s + t) co, vS g0 s c0, vS g1 t c1, .slice none 0 0, .slice none 0 0]), (1, vI 1), (2, vI m)] (Fr_enter [.agg #[.slice po (s + t) co, vS g0 s c0, vS g1 t c1, .slice none 0 0, .slice none 0 0], vI 1, vI m] 32 (Nat.le_of_ble_eq_true rfl)) ?_
  have hH1 : HP Tr w w [] := HP.refl w
  refine WC.seq fun K2 hK2 => ?_
  refine WC.region ?_
  refine WL.alloc (c := #[.slice po (s + t) co, vS g0 s c0, vS g1 t c1, .slice none 0 0, .slice none 0 0]) (T := 71) hH1 3 rfl (by decide) rfl rfl (fun b3 => vP b3 0) (by kernel_rfl) (fun b3 w4 hw4 => ?_)
  have hH5 : HP Tr w w4 [.cel b3 #[.slice po (s + t) co, vS g0 s c0, vS g1 t c1, .slice none 0 0, .slice none 0 0] 71] := hw4.2
  have nb3 := hw4.1
  clear hw4
  refine WL.pure (v := vI 0) 6 rfl (Nat.le_of_ble_eq_true rfl) rfl rfl (by kernel_rfl) ?_
  refine WL.nil ?_
  refine WQ.then ?_
  refine hK2 _ _ _ ?_
  refine WC.seq fun K6 hK6 => ?_
  refine WC.region ?_
  refine WL.pure (v := vI 1) 10 rfl (Nat.le_of_ble_eq_true rfl) rfl rfl (by kernel_rfl) ?_
  refine WL.pure (v := vP b3 1) 11 rfl (Nat.le_of_ble_eq_true rfl) rfl rfl (by kernel_rfl) ?_
  refine WL.pure (v := vP b3 2) 12 rfl (Nat.le_of_ble_eq_true rfl) rfl rfl (x_idxArr (1) (2) rfl rfl rfl Try.underlying69 sz68 (by omega) (by omega) (by omega)) ?_
  refine WL.pure (v := vS g1 t c1) 13 rfl (Nat.le_of_ble_eq_true rfl) rfl rfl (x_load rfl rfl Try.underlying68 rfl (HP.cell hH5 0 rfl rfl)) ?_
  refine WL.pure (v := vS g1 t c1) 7 rfl (Nat.le_of_ble_eq_true rfl) rfl rfl (by kernel_rfl) ?_
  refine WL.nil ?_
  refine WQ.then ?_
  refine hK6 _ _ _ ?_
  refine WC.seq fun K7 hK7 => ?_
  refine WC.region ?_
  refine WL.pure (v := vS g1 t c1) 15 rfl (Nat.le_of_ble_eq_true rfl) rfl rfl (by kernel_rfl) ?_
  refine WL.pure (v := vI m) 16 rfl (Nat.le_of_ble_eq_true rfl) rfl rfl (by kernel_rfl) ?_
  refine WL.pure (v := .agg #[.slice po (s + t) co, vS g0 s c0, vS g1 t c1, .slice none 0 0, .slice none 0 0]) 17 rfl (Nat.le_of_ble_eq_true rfl) rfl rfl (x_loadS (cs := [.slice po (s + t) co, vS g0 s c0, vS g1 t c1, .slice none 0 0, .slice none 0 0]) rfl rfl Try.underlying71 rfl sz71 (HP.range hH5 0 rfl rfl)) ?_
  refine WL.call (f := 81) (args := #[.agg #[.slice po (s + t) co, vS g0 s c0, vS g1 t c1, .slice none 0 0, .slice none 0 0]]) 18 rfl (Nat.le_of_ble_eq_true rfl) rfl rfl (by kernel_rfl) ?_
  refine (period_any po co g0 c0 g1 c1 s t _).mono ?_
  rintro e w8 ⟨rfl, hb9⟩
  refine ⟨_, rfl, ?_⟩
  have hH10 : HP Tr w _ [.cel b3 #[.slice po (s + t) co, vS g0 s c0, vS g1 t c1, .slice none 0 0, .slice none 0 0] 71] := HP.call hH5 hb9
  refine WL.pure (v := vI (m % ((s + t : Nat) : Int))) 19 rfl (Nat.le_of_ble_eq_true rfl) rfl rfl (x_rem (Z := m % ((s + t : Nat) : Int)) rfl rfl rfl (by omega) (tmod_pos (by omega))) ?_
  refine WL.call (f := 88) (args := #[vS g1 t c1, vI (m % ((s + t : Nat) : Int))]) 20 rfl (Nat.le_of_ble_eq_true rfl) rfl rfl (by kernel_rfl) ?_
  refine (search_any _ s t _ _ _ (h1.below (HP.below hH10)) (by omega) (by omega)).mono ?_
  rintro e w11 ⟨k, fb, rfl, hk1, hk2, hk3, hb12⟩
  refine ⟨_, rfl, ?_⟩
  have hH13 : HP Tr w _ [.cel b3 #[.slice po (s + t) co, vS g0 s c0, vS g1 t c1, .slice none 0 0, .slice none 0 0] 71] := HP.call hH10 hb12
  have hmod := Int.emod_lt_of_pos m (show (0 : Int) < ((s + t : Nat) : Int) by omega)
  have hkk : (k : Int) = min (max (m % ((s + t : Nat) : Int) - (s : Int)) 0) (t : Int) := by omega
  obtain ⟨d1, d2⟩ := divB hm0 hm1 (show (1 : Int) ≤ ((s + t : Nat) : Int) by omega)
  obtain ⟨e1, e2⟩ := mulB d1 d2 (show (0 : Int) ≤ (t : Int) by omega) (show (t : Int) ≤ 50 by omega)
  refine WL.pure (v := .tuple #[vI (k : Int), .bool fb]) 14 rfl (Nat.le_of_ble_eq_true rfl) rfl rfl (by kernel_rfl) ?_
  refine WL.pure (v := vI (k : Int)) 21 rfl (Nat.le_of_ble_eq_true rfl) rfl rfl (by kernel_rfl) ?_
  refine WL.pure (v := .bool fb) 22 rfl (Nat.le_of_ble_eq_true rfl) rfl rfl (by kernel_rfl) ?_
  refine WL.pure (v := vI (k : Int)) 8 rfl (Nat.le_of_ble_eq_true rfl) rfl rfl (by kernel_rfl) ?_
  refine WL.pure (v := .bool fb) 9 rfl (Nat.le_of_ble_eq_true rfl) rfl rfl (by kernel_rfl) ?_
  refine WL.nil ?_
  refine WQ.then ?_
  refine hK7 _ _ _ ?_
  refine WC.sub (l' := [(0, .agg #[.slice po (s + t) co, vS g0 s c0, vS g1 t c1, .slice none 0 0, .slice none 0 0]), (1, vI 1), (2, vI m), (3, vP b3 0), (6, vI 0), (7, vS g1 t c1), (8, vI (k : Int))]) ⟨rfl, rfl, rfl, rfl, rfl, rfl, rfl, trivial⟩ ?_
  refine WC.seq fun K14 hK14 => ?_
  refine WC.region ?_
  refine WL.pure (v := vI m) 23 rfl (Nat.le_of_ble_eq_true rfl) rfl rfl (by kernel_rfl) ?_
  refine WL.pure (v := .agg #[.slice po (s + t) co, vS g0 s c0, vS g1 t c1, .slice none 0 0, .slice none 0 0]) 24 rfl (Nat.le_of_ble_eq_true rfl) rfl rfl (x_loadS (cs := [.slice po (s + t) co, vS g0 s c0, vS g1 t c1, .slice none 0 0, .slice none 0 0]) rfl rfl Try.underlying71 rfl sz71 (HP.range hH13 0 rfl rfl)) ?_
  refine WL.call (f := 81) (args := #[.agg #[.slice po (s + t) co, vS g0 s c0, vS g1 t c1, .slice none 0 0, .slice none 0 0]]) 25 rfl (Nat.le_of_ble_eq_true rfl) rfl rfl (by kernel_rfl) ?_
  refine (period_any po co g0 c0 g1 c1 s t _).mono ?_
  rintro e w15 ⟨rfl, hb16⟩
  refine ⟨_, rfl, ?_⟩
  have hH17 : HP Tr w _ [.cel b3 #[.slice po (s + t) co, vS g0 s c0, vS g1 t c1, .slice none 0 0, .slice none 0 0] 71] := HP.call hH13 hb16
  refine WL.pure (v := vI (m / ((s + t : Nat) : Int))) 26 rfl (Nat.le_of_ble_eq_true rfl) rfl rfl (x_quo (Z := m / ((s + t : Nat) : Int)) rfl rfl rfl (by omega) (tdiv_pos (by omega) (by omega)) (by omega) (by omega)) ?_
  refine WL.pure (v := vS g1 t c1) 27 rfl (Nat.le_of_ble_eq_true rfl) rfl rfl (by kernel_rfl) ?_
  refine WL.pure (v := vI (t : Int)) 28 rfl (Nat.le_of_ble_eq_true rfl) rfl rfl (by kernel_rfl) ?_
  refine WL.pure (v := vI ((m / ((s + t : Nat) : Int)) * (t : Int))) 29 rfl (Nat.le_of_ble_eq_true rfl) rfl rfl (x_mul (Z := (m / ((s + t : Nat) : Int)) * (t : Int)) rfl rfl rfl (by omega) (by omega) (by omega)) ?_
  refine WL.pure (v := vI (k : Int)) 30 rfl (Nat.le_of_ble_eq_true rfl) rfl rfl (by kernel_rfl) ?_
  refine WL.pure (v := vI (ad ((s + t : Nat) : Int) (s : Int) (t : Int) m)) 31 rfl (Nat.le_of_ble_eq_true rfl) rfl rfl (x_add (Z := ad ((s + t : Nat) : Int) (s : Int) (t : Int) m) rfl rfl rfl (by unfold ad; rw [hkk]) (by unfold ad; rw [← hkk]; omega) (by unfold ad; rw [← hkk]; omega)) ?_
  refine WL.pure (v := vI (ad ((s + t : Nat) : Int) (s : Int) (t : Int) m)) 6 rfl (Nat.le_of_ble_eq_true rfl) rfl rfl (by kernel_rfl) ?_
  refine WL.nil ?_
  refine WQ.then ?_
  refine hK14 _ _ _ ?_
  refine WC.sub (l' := [(0, .agg #[.slice po (s + t) co, vS g0 s c0, vS g1 t c1, .slice none 0 0, .slice none 0 0]), (1, vI 1), (2, vI m), (3, vP b3 0), (6, vI (ad ((s + t : Nat) : Int) (s : Int) (t : Int) m)), (7, vS g1 t c1), (8, vI (k : Int))]) ⟨rfl, rfl, rfl, rfl, rfl, rfl, rfl, trivial⟩ ?_
  refine WC.ret ?_
  refine WQ.ret1 6 rfl rfl ?_
  exact ⟨rfl, HP.below hH17⟩
set_option maxRecDepth 20000 in
set_option maxHeartbeats 4000000 in
theorem end_any (po : Option Addr) (co g0 c0 g1 c1 s t : Nat) (m n : Int) (w : World) (h0 : RR w g0 0 s) (h1 : RR w g1 s t) (hs : 1 ≤ s ∧ s ≤ 50) (ht : 1 ≤ t ∧ t ≤ 50) (hm0 : 0 ≤ m) (hm1 : m ≤ 1000000) (hn0 : 1 ≤ n) (hn1 : n ≤ 100) :
    Calls Try.prog 67 #[.agg #[.slice po (s + t) co, vS g0 s c0, vS g1 t c1, .slice none 0 0, .slice none 0 0], vI 1, vI m, vI n] w fun e w' => e = .returned (.int .i64 (pd ((s + t : Nat) : Int) (s : Int) (t : Int) (ad ((s + t : Nat) : Int) (s : Int) (t : Int) m + n))) ∧ Below w.heap.size w w' := by
  refine calls_of Try.func67 rfl (m := 38) rfl [(0, .agg #[.slice po (s + t) co, vS g0 s c0, vS g1 t c1, .slice none 0 0, .slice none 0 0]), (1, vI 1), (2, vI m), (3, vI n)] (Fr_enter [.agg #[.slice po (s + t) co, vS g0 s c0, vS g1 t c1, .slice none 0 0, .slice none 0 0], vI 1, vI m, vI n] 38 (Nat.le_of_ble_eq_true rfl)) ?_
  have hH1 : HP Tr w w [] := HP.refl w
  refine WC.seq fun K2 hK2 => ?_
  refine WC.region ?_
  refine WL.alloc (c := #[.slice po (s + t) co, vS g0 s c0, vS g1 t c1, .slice none 0 0, .slice none 0 0]) (T := 71) hH1 4 rfl (by decide) rfl rfl (fun b3 => vP b3 0) (by kernel_rfl) (fun b3 w4 hw4 => ?_)
  have hH5 : HP Tr w w4 [.cel b3 #[.slice po (s + t) co, vS g0 s c0, vS g1 t c1, .slice none 0 0, .slice none 0 0] 71] := hw4.2
  have nb3 := hw4.1
  clear hw4
  refine WL.pure (v := vI 0) 8 rfl (Nat.le_of_ble_eq_true rfl) rfl rfl (by kernel_rfl) ?_
  refine WL.nil ?_
  refine WQ.then ?_
  refine hK2 _ _ _ ?_
  refine WC.seq fun K6 hK6 => ?_
  refine WC.region ?_
  refine WL.pure (v := vI 1) 11 rfl (Nat.le_of_ble_eq_true rfl) rfl rfl (by kernel_rfl) ?_
  refine WL.pure (v := vP b3 1) 12 rfl (Nat.le_of_ble_eq_true rfl) rfl rfl (by kernel_rfl) ?_
  refine WL.pure (v := vP b3 2) 13 rfl (Nat.le_of_ble_eq_true rfl) rfl rfl (x_idxArr (1) (2) rfl rfl rfl Try.underlying69 sz68 (by omega) (by omega) (by omega)) ?_
  refine WL.pure (v := vS g1 t c1) 14 rfl (Nat.le_of_ble_eq_true rfl) rfl rfl (x_load rfl rfl Try.underlying68 rfl (HP.cell hH5 0 rfl rfl)) ?_
  refine WL.pure (v := vS g1 t c1) 9 rfl (Nat.le_of_ble_eq_true rfl) rfl rfl (by kernel_rfl) ?_
  refine WL.nil ?_
  refine WQ.then ?_
  refine hK6 _ _ _ ?_
  refine WC.seq fun K7 hK7 => ?_
  have hab := adB (F := ((s + t : Nat) : Int)) (S := (s : Int)) (M := (t : Int)) (m := m) (A := 1000000) (by omega) (by omega) (by omega) hm0 hm1
  refine WC.region ?_
  refine WL.pure (v := .agg #[.slice po (s + t) co, vS g0 s c0, vS g1 t c1, .slice none 0 0, .slice none 0 0]) 15 rfl (Nat.le_of_ble_eq_true rfl) rfl rfl (x_loadS (cs := [.slice po (s + t) co, vS g0 s c0, vS g1 t c1, .slice none 0 0, .slice none 0 0]) rfl rfl Try.underlying71 rfl sz71 (HP.range hH5 0 rfl rfl)) ?_
  refine WL.pure (v := vI 1) 16 rfl (Nat.le_of_ble_eq_true rfl) rfl rfl (by kernel_rfl) ?_
  refine WL.pure (v := vI m) 17 rfl (Nat.le_of_ble_eq_true rfl) rfl rfl (by kernel_rfl) ?_
  refine WL.call (f := 82) (args := #[.agg #[.slice po (s + t) co, vS g0 s c0, vS g1 t c1, .slice none 0 0, .slice none 0 0], vI 1, vI m]) 18 rfl (Nat.le_of_ble_eq_true rfl) rfl rfl (by kernel_rfl) ?_
  refine (before1_any po co g0 c0 g1 c1 s t m _ (h0.below (HP.below hH5)) (h1.below (HP.below hH5)) hs ht hm0 hm1).mono ?_
  rintro e w8 ⟨rfl, hb9⟩
  refine ⟨_, rfl, ?_⟩
  have hH10 : HP Tr w _ [.cel b3 #[.slice po (s + t) co, vS g0 s c0, vS g1 t c1, .slice none 0 0, .slice none 0 0] 71] := HP.call hH5 hb9
  refine WL.pure (v := vI n) 19 rfl (Nat.le_of_ble_eq_true rfl) rfl rfl (by kernel_rfl) ?_
  refine WL.pure (v := vI (ad ((s + t : Nat) : Int) (s : Int) (t : Int) m + n)) 20 rfl (Nat.le_of_ble_eq_true rfl) rfl rfl (x_add (Z := ad ((s + t : Nat) : Int) (s : Int) (t : Int) m + n) rfl rfl rfl (by omega) (by omega) (by omega)) ?_
  refine WL.pure (v := vI (ad ((s + t : Nat) : Int) (s : Int) (t : Int) m + n - 1)) 21 rfl (Nat.le_of_ble_eq_true rfl) rfl rfl (x_sub (Z := ad ((s + t : Nat) : Int) (s : Int) (t : Int) m + n - 1) rfl rfl rfl (by omega) (by omega) (by omega)) ?_
  refine WL.pure (v := vI (ad ((s + t : Nat) : Int) (s : Int) (t : Int) m + n - 1)) 10 rfl (Nat.le_of_ble_eq_true rfl) rfl rfl (by kernel_rfl) ?_
  refine WL.nil ?_
  refine WQ.then ?_
  refine hK7 _ _ _ ?_
  refine WC.sub (l' := [(0, .agg #[.slice po (s + t) co, vS g0 s c0, vS g1 t c1, .slice none 0 0, .slice none 0 0]), (1, vI 1), (2, vI m), (3, vI n), (4, vP b3 0), (8, vI 0), (9, vS g1 t c1), (10, vI (ad ((s + t : Nat) : Int) (s : Int) (t : Int) m + n - 1))]) ⟨rfl, rfl, rfl, rfl, rfl, rfl, rfl, rfl, trivial⟩ ?_
  refine WC.seq fun K11 hK11 => ?_
  obtain ⟨L0, hL0⟩ : ∃ L0 : Int, L0 = ad ((s + t : Nat) : Int) (s : Int) (t : Int) m + n - 1 := ⟨_, rfl⟩
  rw [← hL0]
  obtain ⟨d1, d2⟩ := divB (m := L0) (F := (t : Int)) (A := 60000000) (by omega) (by omega) (by omega)
  obtain ⟨e1, e2⟩ := mulB d1 d2 (show (0 : Int) ≤ ((s + t : Nat) : Int) by omega) (show ((s + t : Nat) : Int) ≤ 100 by omega)
  have hm2 := Int.emod_nonneg L0 (show (t : Int) ≠ 0 by omega)
  have hm3 := Int.emod_lt_of_pos L0 (show (0 : Int) < (t : Int) by omega)
  obtain ⟨r, hrr⟩ : ∃ r : Nat, L0 % (t : Int) = (r : Int) := ⟨(L0 % (t : Int)).toNat, by omega⟩
  have hrt : r < t := by omega
  refine WC.confG (γ := Unit) [(0, .agg #[.slice po (s + t) co, vS g0 s c0, vS g1 t c1, .slice none 0 0, .slice none 0 0]), (1, vI 1), (2, vI m), (3, vI n), (4, vP b3 0), (9, vS g1 t c1), (10, vI L0)] (fun _ => [vI L0, vS g1 t c1, vI (t : Int), vI (L0 / (t : Int)), .agg #[.slice po (s + t) co, vS g0 s c0, vS g1 t c1, .slice none 0 0, .slice none 0 0], vI ((s + t : Nat) : Int), vI ((L0 / (t : Int)) * ((s + t : Nat) : Int)), vS g1 t c1, vI L0, vS g1 t c1, vI (t : Int), vI (r : Int), vP g1 r, vI ((s + r : Nat) : Int), vI ((L0 / (t : Int)) * ((s + t : Nat) : Int) + ((s + r : Nat) : Int)), vI ((L0 / (t : Int)) * ((s + t : Nat) : Int) + ((s + r : Nat) : Int) + 1), vI ((L0 / (t : Int)) * ((s + t : Nat) : Int) + ((s + r : Nat) : Int) + 1)]) (fun _ D wz => HP Tr w wz [.cel b3 #[.slice po (s + t) co, vS g0 s c0, vS g1 t c1, .slice none 0 0, .slice none 0 0] 71]) () (by kernel_rfl) ⟨rfl, rfl, rfl, rfl, rfl, rfl, rfl, trivial⟩ (by kernel_rfl) (by kernel_rfl) (by kernel_rfl) (fun _ => rfl) (by kernel_rfl) (HP.drew hH10) ?_ ?_
  · refine AllOk.cons ?o0 (AllOk.cons ?o1 (AllOk.cons ?o2 (AllOk.cons ?o3 (AllOk.cons ?o4 (AllOk.cons ?o5 (AllOk.cons ?o6 (AllOk.cons ?o7 (AllOk.cons ?o8 (AllOk.cons ?o9 (AllOk.cons ?o10 (AllOk.cons ?o11 (AllOk.cons ?o12 (AllOk.cons ?o13 (AllOk.cons ?o14 (AllOk.cons ?o15 (AllOk.cons ?o16 (AllOk.nil _)))))))))))))))))
    case o0 =>
      intro g D wz hDi hdep hclo hW
      exact .inl ⟨rfl, rfl, .inl ⟨g, wz, fun _ _ => rfl, by kernel_rfl, hW⟩⟩
    case o1 =>
      intro g D wz hDi hdep hclo hW
      exact .inl ⟨rfl, rfl, .inl ⟨g, wz, fun _ _ => rfl, by kernel_rfl, hW⟩⟩
    case o2 =>
      intro g D wz hDi hdep hclo hW
      exact .inl ⟨rfl, rfl, .inl ⟨g, wz, fun _ _ => rfl, by kernel_rfl, hW⟩⟩
    case o3 =>
      intro g D wz hDi hdep hclo hW
      exact .inl ⟨rfl, rfl, .inl ⟨g, wz, fun _ _ => rfl, x_quo (Z := L0 / (t : Int)) rfl rfl rfl (by omega) (tdiv_pos (by omega) (by omega)) (by omega) (by omega), hW⟩⟩
    case o4 =>
      intro g D wz hDi hdep hclo hW
      exact .inl ⟨rfl, rfl, .inl ⟨g, wz, fun _ _ => rfl, x_loadS (cs := [.slice po (s + t) co, vS g0 s c0, vS g1 t c1, .slice none 0 0, .slice none 0 0]) rfl rfl Try.underlying71 rfl sz71 (HP.range hW 0 rfl rfl), hW⟩⟩
    case o5 =>
      intro g D wz hDi hdep hclo hW
      exact .inl ⟨rfl, rfl, .inr (.inr ⟨81, #[.agg #[.slice po (s + t) co, vS g0 s c0, vS g1 t c1, .slice none 0 0, .slice none 0 0]], by kernel_rfl, (period_any po co g0 c0 g1 c1 s t _).mono fun e w2 h => ⟨g, fun _ _ => rfl, h.1, HP.call hW h.2⟩⟩)⟩
    case o6 =>
      intro g D wz hDi hdep hclo hW
      exact .inl ⟨rfl, rfl, .inl ⟨g, wz, fun _ _ => rfl, x_mul (Z := (L0 / (t : Int)) * ((s + t : Nat) : Int)) rfl rfl rfl (by omega) (by omega) (by omega), hW⟩⟩
    case o7 =>
      intro g D wz hDi hdep hclo hW
      exact .inl ⟨rfl, rfl, .inl ⟨g, wz, fun _ _ => rfl, by kernel_rfl, hW⟩⟩
    case o8 =>
      intro g D wz hDi hdep hclo hW
      exact .inl ⟨rfl, rfl, .inl ⟨g, wz, fun _ _ => rfl, by kernel_rfl, hW⟩⟩
    case o9 =>
      intro g D wz hDi hdep hclo hW
      exact .inl ⟨rfl, rfl, .inl ⟨g, wz, fun _ _ => rfl, by kernel_rfl, hW⟩⟩
    case o10 =>
      intro g D wz hDi hdep hclo hW
      exact .inl ⟨rfl, rfl, .inl ⟨g, wz, fun _ _ => rfl, by kernel_rfl, hW⟩⟩
    case o11 =>
      intro g D wz hDi hdep hclo hW
      exact .inl ⟨rfl, rfl, .inl ⟨g, wz, fun _ _ => rfl, x_rem (Z := (r : Int)) rfl rfl rfl (by omega) (by rw [tmod_pos (by omega)]; exact hrr), hW⟩⟩
    case o12 =>
      intro g D wz hDi hdep hclo hW
      exact .inl ⟨rfl, rfl, .inl ⟨g, wz, fun _ _ => rfl, x_idx (r) (r) rfl rfl rfl Try.underlying68 sz3 (by omega) (by omega) (by omega), hW⟩⟩
    case o13 =>
      intro g D wz hDi hdep hclo hW
      exact .inl ⟨rfl, rfl, .inl ⟨g, wz, fun _ _ => rfl, x_load rfl rfl Try.underlying3 rfl ((HP.oldRange hW trivial (h1 r (by omega))) 0 _ rfl), hW⟩⟩
    case o14 =>
      intro g D wz hDi hdep hclo hW
      exact .inl ⟨rfl, rfl, .inl ⟨g, wz, fun _ _ => rfl, x_add (Z := (L0 / (t : Int)) * ((s + t : Nat) : Int) + ((s + r : Nat) : Int)) rfl rfl rfl (by omega) (by omega) (by omega), hW⟩⟩
    case o15 =>
      intro g D wz hDi hdep hclo hW
      exact .inl ⟨rfl, rfl, .inl ⟨g, wz, fun _ _ => rfl, x_add (Z := (L0 / (t : Int)) * ((s + t : Nat) : Int) + ((s + r : Nat) : Int) + 1) rfl rfl rfl (by omega) (by omega) (by omega), hW⟩⟩
    case o16 =>
      intro g D wz hDi hdep hclo hW
      exact .inl ⟨rfl, rfl, .inl ⟨g, wz, fun _ _ => rfl, by kernel_rfl, hW⟩⟩
  intro g D w12 hall hH13
  clear hall
  refine WQ.sub (l' := [(0, .agg #[.slice po (s + t) co, vS g0 s c0, vS g1 t c1, .slice none 0 0, .slice none 0 0]), (1, vI 1), (2, vI m), (3, vI n), (4, vP b3 0), (8, vI ((L0 / (t : Int)) * ((s + t : Nat) : Int) + ((s + r : Nat) : Int) + 1)), (9, vS g1 t c1), (10, vI L0)]) ⟨rfl, rfl, rfl, rfl, rfl, rfl, rfl, rfl, trivial⟩ ?_
  refine WQ.then ?_
  refine hK11 _ _ _ ?_
  refine WC.ret ?_
  refine WQ.ret1 8 rfl rfl ?_
  have hpd : pd ((s + t : Nat) : Int) (s : Int) (t : Int) (ad ((s + t : Nat) : Int) (s : Int) (t : Int) m + n) = (L0 / (t : Int)) * ((s + t : Nat) : Int) + ((s + r : Nat) : Int) + 1 := by unfold pd; rw [← hL0, hrr]; omega
  exact ⟨by rw [hpd], HP.below hH13⟩
set_option maxRecDepth 20000 in
set_option maxHeartbeats 4000000 in
theorem isReq_any (m n : Int) (w : World) (hm0 : 0 ≤ m) (hm1 : m ≤ 10000) (hn0 : 1 ≤ n) (hn1 : n ≤ 100) :
    Calls Try.prog 65 #[.agg #[vI 1, vI m, vI n]] w fun e w' => e = .returned (.bool true) ∧ Below w.heap.size w w' := by
  refine calls_of Try.func65 rfl (m := 21) rfl [(0, .agg #[vI 1, vI m, vI n])] (Fr_enter [.agg #[vI 1, vI m, vI n]] 21 (Nat.le_of_ble_eq_true rfl)) ?_
  have hH1 : HP Tr w w [] := HP.refl w
  refine WC.seq fun K2 hK2 => ?_
  refine WC.region ?_
  refine WL.alloc (c := #[vI 1, vI m, vI n]) (T := 49) hH1 1 rfl (by decide) rfl rfl (fun b3 => vP b3 0) (by kernel_rfl) (fun b3 w4 hw4 => ?_)
  have hH5 : HP Tr w w4 [.cel b3 #[vI 1, vI m, vI n] 49] := hw4.2
  have nb3 := hw4.1
  clear hw4
  refine WL.pure (v := .bool false) 2 rfl (Nat.le_of_ble_eq_true rfl) rfl rfl (by kernel_rfl) ?_
  refine WL.nil ?_
  refine WQ.then ?_
  refine hK2 _ _ _ ?_
  refine WC.seq fun K6 hK6 => ?_
  refine WC.region ?_
  refine WL.pure (v := vP b3 0) 3 rfl (Nat.le_of_ble_eq_true rfl) rfl rfl (by kernel_rfl) ?_
  refine WL.pure (v := vI 1) 4 rfl (Nat.le_of_ble_eq_true rfl) rfl rfl (x_load rfl rfl Try.underlying3 rfl (HP.cell hH5 0 rfl rfl)) ?_
  refine WL.call (f := 79) (args := #[vI 1]) 5 rfl (Nat.le_of_ble_eq_true rfl) rfl rfl (by kernel_rfl) ?_
  refine (isMaster_any _ _).mono ?_
  rintro e w7 ⟨rfl, rfl⟩
  refine ⟨_, rfl, ?_⟩
  refine WL.pure (v := .bool true) 6 rfl (Nat.le_of_ble_eq_true rfl) rfl rfl (by kernel_rfl) ?_
  refine WL.pure (v := vP b3 1) 7 rfl (Nat.le_of_ble_eq_true rfl) rfl rfl (by kernel_rfl) ?_
  refine WL.pure (v := vI m) 8 rfl (Nat.le_of_ble_eq_true rfl) rfl rfl (x_load rfl rfl Try.underlying3 rfl (HP.cell hH5 0 rfl rfl)) ?_
  have qw := bwithin_any m 10000
  rw [dT hm0, dT hm1] at qw
  refine WL.call (f := 80) (args := #[vI m, vI 10000]) 9 rfl (Nat.le_of_ble_eq_true rfl) rfl rfl (by kernel_rfl) ?_
  refine (qw _).mono ?_
  rintro e w8 ⟨rfl, rfl⟩
  refine ⟨_, rfl, ?_⟩
  refine WL.pure (v := .bool true) 10 rfl (Nat.le_of_ble_eq_true rfl) rfl rfl (by kernel_rfl) ?_
  refine WL.pure (v := .bool true) 11 rfl (Nat.le_of_ble_eq_true rfl) rfl rfl (by kernel_rfl) ?_
  refine WL.pure (v := vP b3 2) 12 rfl (Nat.le_of_ble_eq_true rfl) rfl rfl (by kernel_rfl) ?_
  refine WL.pure (v := vI n) 13 rfl (Nat.le_of_ble_eq_true rfl) rfl rfl (x_load rfl rfl Try.underlying3 rfl (HP.cell hH5 0 rfl rfl)) ?_
  refine WL.pure (v := .bool true) 14 rfl (Nat.le_of_ble_eq_true rfl) rfl rfl (x_geq rfl rfl rfl (dT (by omega))) ?_
  refine WL.pure (v := .bool true) 15 rfl (Nat.le_of_ble_eq_true rfl) rfl rfl (by kernel_rfl) ?_
  refine WL.pure (v := .bool true) 16 rfl (Nat.le_of_ble_eq_true rfl) rfl rfl (by kernel_rfl) ?_
  refine WL.pure (v := vP b3 2) 17 rfl (Nat.le_of_ble_eq_true rfl) rfl rfl (by kernel_rfl) ?_
  refine WL.pure (v := vI n) 18 rfl (Nat.le_of_ble_eq_true rfl) rfl rfl (x_load rfl rfl Try.underlying3 rfl (HP.cell hH5 0 rfl rfl)) ?_
  refine WL.pure (v := .bool true) 19 rfl (Nat.le_of_ble_eq_true rfl) rfl rfl (x_leq rfl rfl rfl (dT (by omega))) ?_
  refine WL.pure (v := .bool true) 20 rfl (Nat.le_of_ble_eq_true rfl) rfl rfl (by kernel_rfl) ?_
  refine WL.pure (v := .bool true) 2 rfl (Nat.le_of_ble_eq_true rfl) rfl rfl (by kernel_rfl) ?_
  refine WL.nil ?_
  refine WQ.then ?_
  refine hK6 _ _ _ ?_
  refine WC.sub (l' := [(0, .agg #[vI 1, vI m, vI n]), (1, vP b3 0), (2, .bool true)]) ⟨rfl, rfl, rfl, trivial⟩ ?_
  refine WC.ret ?_
  refine WQ.ret1 2 rfl rfl ?_
  exact ⟨rfl, HP.below hH5⟩
set_option maxRecDepth 20000 in
set_option maxHeartbeats 4000000 in
theorem windows0_any (bb oo s t : Nat) (W : Int) (w : World) (hr : LR w bb oo s t) (hs : 1 ≤ s ∧ s ≤ 50) (ht : 1 ≤ t ∧ t ≤ 50) (hW0 : 0 ≤ W) (hW1 : W ≤ 10000) :
    Calls Try.prog 63 #[.slice (some ⟨bb, oo, none⟩) 2 2, vI 0, vI W] w fun e w' => ∃ j : Nat, s + t = j + 1 ∧ e = .returned (.tuple #[.int .i64 (mn (fun x => ad ((s + t : Nat) : Int) (0 : Int) (s : Int) (x + W) - ad ((s + t : Nat) : Int) (0 : Int) (s : Int) x) j), .int .i64 (mx (fun x => ad ((s + t : Nat) : Int) (0 : Int) (s : Int) (x + W) - ad ((s + t : Nat) : Int) (0 : Int) (s : Int) x) j), .int .i64 0]) ∧ Below w.heap.size w w' := by
  refine calls_of Try.func63 rfl (m := 55) rfl [(0, .slice (some ⟨bb, oo, none⟩) 2 2), (1, vI 0), (2, vI W)] (Fr_enter [.slice (some ⟨bb, oo, none⟩) 2 2, vI 0, vI W] 55 (Nat.le_of_ble_eq_true rfl)) ?_
  have hH1 : HP Tr w w [] := HP.refl w
  refine WC.seq fun K2 hK2 => ?_
  refine WC.region ?_
  refine WL.pure (v := vI 0) 6 rfl (Nat.le_of_ble_eq_true rfl) rfl rfl (by kernel_rfl) ?_
  refine WL.pure (v := vI 0) 7 rfl (Nat.le_of_ble_eq_true rfl) rfl rfl (by kernel_rfl) ?_
  refine WL.pure (v := vI 0) 8 rfl (Nat.le_of_ble_eq_true rfl) rfl rfl (by kernel_rfl) ?_
  refine WL.nil ?_
  refine WQ.then ?_
  refine hK2 _ _ _ ?_
  refine WC.seq fun K3 hK3 => ?_
  refine WC.seq fun K4 hK4 => ?_
  refine WC.region ?_
  refine WL.pure (v := .slice (some ⟨bb, oo, none⟩) 2 2) 12 rfl (Nat.le_of_ble_eq_true rfl) rfl rfl (by kernel_rfl) ?_
  refine WL.call (f := 64) (args := #[.slice (some ⟨bb, oo, none⟩) 2 2]) 13 rfl (Nat.le_of_ble_eq_true rfl) rfl rfl (by kernel_rfl) ?_
  refine (bvalid_any _ _ s t _ (hr.below (HP.below hH1)) hs ht).mono ?_
  rintro e w5 ⟨rfl, hb6⟩
  refine ⟨_, rfl, ?_⟩
  have hH7 : HP Tr w _ [] := HP.call hH1 hb6
  refine WL.pure (v := .bool false) 14 rfl (Nat.le_of_ble_eq_true rfl) rfl rfl (by kernel_rfl) ?_
  refine WL.pure (v := .bool false) 15 rfl (Nat.le_of_ble_eq_true rfl) rfl rfl (by kernel_rfl) ?_
  refine WL.pure (v := vI 0) 16 rfl (Nat.le_of_ble_eq_true rfl) rfl rfl (by kernel_rfl) ?_
  refine WL.call (f := 79) (args := #[vI 0]) 17 rfl (Nat.le_of_ble_eq_true rfl) rfl rfl (by kernel_rfl) ?_
  refine (isMaster_any _ _).mono ?_
  rintro e w8 ⟨rfl, rfl⟩
  refine ⟨_, rfl, ?_⟩
  refine WL.pure (v := .bool false) 18 rfl (Nat.le_of_ble_eq_true rfl) rfl rfl (by kernel_rfl) ?_
  refine WL.pure (v := .bool false) 19 rfl (Nat.le_of_ble_eq_true rfl) rfl rfl (by kernel_rfl) ?_
  refine WL.pure (v := .bool false) 20 rfl (Nat.le_of_ble_eq_true rfl) rfl rfl (by kernel_rfl) ?_
  refine WL.pure (v := vI W) 21 rfl (Nat.le_of_ble_eq_true rfl) rfl rfl (by kernel_rfl) ?_
  have qw := bwithin_any W 10000
  rw [dT hW0, dT hW1] at qw
  refine WL.call (f := 80) (args := #[vI W, vI 10000]) 22 rfl (Nat.le_of_ble_eq_true rfl) rfl rfl (by kernel_rfl) ?_
  refine (qw _).mono ?_
  rintro e w9 ⟨rfl, rfl⟩
  refine ⟨_, rfl, ?_⟩
  refine WL.pure (v := .bool false) 23 rfl (Nat.le_of_ble_eq_true rfl) rfl rfl (by kernel_rfl) ?_
  refine WL.pure (v := .bool false) 24 rfl (Nat.le_of_ble_eq_true rfl) rfl rfl (by kernel_rfl) ?_
  refine WL.nil ?_
  refine WQ.then ?_
  refine hK4 _ _ _ ?_
  refine WC.sub (l' := [(0, .slice (some ⟨bb, oo, none⟩) 2 2), (1, vI 0), (2, vI W), (6, vI 0), (7, vI 0), (8, vI 0), (24, .bool false)]) ⟨rfl, rfl, rfl, rfl, rfl, rfl, rfl, trivial⟩ ?_
  refine WC.no rfl ?_
  refine WC.skip ?_
  refine WQ.then ?_
  refine hK3 _ _ _ ?_
  refine WC.seq fun K10 hK10 => ?_
  refine WC.region ?_
  refine WL.pure (v := .slice (some ⟨bb, oo, none⟩) 2 2) 25 rfl (Nat.le_of_ble_eq_true rfl) rfl rfl (by kernel_rfl) ?_
  refine WL.call (f := 66) (args := #[.slice (some ⟨bb, oo, none⟩) 2 2]) 26 rfl (Nat.le_of_ble_eq_true rfl) rfl rfl (by kernel_rfl) ?_
  refine (turning_any _ _ s t _ (hr.below (HP.below hH7)) hs ht).mono ?_
  rintro e w11 ⟨po, co, g0, c0, g1, c1, xo, rfl, hb12⟩
  refine ⟨_, rfl, ?_⟩
  have hH13 : HP Tr w _ [.own (.slice po (s + t) co) (s + t) xo 3 1, .own (vS g0 s c0) s (rng 0 s) 3 1, .own (vS g1 t c1) t (rng s t) 3 1] := HP.trans hH7 hb12
  refine WL.alloc (c := #[.slice none 0 0, .slice none 0 0, .slice none 0 0, .slice none 0 0, .slice none 0 0]) (T := 71) hH13 9 rfl (by decide) rfl rfl (fun bw => vP bw 0) (by kernel_rfl) (fun bw w14 hw14 => ?_)
  have hH15 : HP Tr w w14 [.own (.slice po (s + t) co) (s + t) xo 3 1, .own (vS g0 s c0) s (rng 0 s) 3 1, .own (vS g1 t c1) t (rng s t) 3 1, .cel bw #[.slice none 0 0, .slice none 0 0, .slice none 0 0, .slice none 0 0, .slice none 0 0] 71] := hw14.2
  have nbw := hw14.1
  clear hw14
  refine WL.storeS (H2 := [.own (.slice po (s + t) co) (s + t) xo 3 1, .own (vS g0 s c0) s (rng 0 s) 3 1, .own (vS g1 t c1) t (rng s t) 3 1, .cel bw #[.slice po (s + t) co, vS g0 s c0, vS g1 t c1, .slice none 0 0, .slice none 0 0] 71]) 3 hH15 rfl rfl rfl rfl rfl rfl sz71 rfl (Nat.le_of_ble_eq_true rfl) rfl rfl ?_
  intro w16 hH17
  refine WL.nil ?_
  refine WQ.then ?_
  refine hK10 _ _ _ ?_
  refine WC.seq fun K18 hK18 => ?_
  refine WC.seq fun K19 hK19 => ?_
  refine WC.region ?_
  refine WL.pure (v := .agg #[.slice po (s + t) co, vS g0 s c0, vS g1 t c1, .slice none 0 0, .slice none 0 0]) 27 rfl (Nat.le_of_ble_eq_true rfl) rfl rfl (x_loadS (cs := [.slice po (s + t) co, vS g0 s c0, vS g1 t c1, .slice none 0 0, .slice none 0 0]) rfl rfl Try.underlying71 rfl sz71 (HP.range hH17 3 rfl rfl)) ?_
  refine WL.call (f := 81) (args := #[.agg #[.slice po (s + t) co, vS g0 s c0, vS g1 t c1, .slice none 0 0, .slice none 0 0]]) 28 rfl (Nat.le_of_ble_eq_true rfl) rfl rfl (by kernel_rfl) ?_
  refine (period_any po co g0 c0 g1 c1 s t _).mono ?_
  rintro e w20 ⟨rfl, hb21⟩
  refine ⟨_, rfl, ?_⟩
  have hH22 : HP Tr w _ [.own (.slice po (s + t) co) (s + t) xo 3 1, .own (vS g0 s c0) s (rng 0 s) 3 1, .own (vS g1 t c1) t (rng s t) 3 1, .cel bw #[.slice po (s + t) co, vS g0 s c0, vS g1 t c1, .slice none 0 0, .slice none 0 0] 71] := HP.call hH17 hb21
  refine WL.pure (v := vI 0) 29 rfl (Nat.le_of_ble_eq_true rfl) rfl rfl (by kernel_rfl) ?_
  refine WL.nil ?_
  refine WQ.then ?_
  refine hK19 _ _ _ ?_
  refine WC.block ?_
  refine WC.loop (fun kk0 ll0 ww0 => ∃ (k : Nat) (lo : Int) (mo : Int), ll0 = [(1, vI 0), (2, vI W), (6, vI lo), (7, vI mo), (9, vP bw 0), (28, vI ((s + t : Nat) : Int)), (29, vI (k : Int))] ∧ kk0 = s + t - k ∧ (k ≤ s + t) ∧ ((k = 0 ∧ lo = 0 ∧ mo = 0) ∨ (∃ j, k = j + 1 ∧ lo = mn (fun x => ad ((s + t : Nat) : Int) (0 : Int) (s : Int) (x + W) - ad ((s + t : Nat) : Int) (0 : Int) (s : Int) x) j ∧ mo = mx (fun x => ad ((s + t : Nat) : Int) (0 : Int) (s : Int) (x + W) - ad ((s + t : Nat) : Int) (0 : Int) (s : Int) x) j)) ∧ HP Tr w ww0 [.own (.slice po (s + t) co) (s + t) xo 3 1, .own (vS g0 s c0) s (rng 0 s) 3 1, .own (vS g1 t c1) t (rng s t) 3 1, .cel bw #[.slice po (s + t) co, vS g0 s c0, vS g1 t c1, .slice none 0 0, .slice none 0 0] 71]) (s + t) [(1, vI 0), (2, vI W), (6, vI 0), (7, vI 0), (9, vP bw 0), (28, vI ((s + t : Nat) : Int)), (29, vI 0)] ⟨rfl, rfl, rfl, rfl, rfl, rfl, rfl, trivial⟩ ⟨0, 0, 0, rfl, rfl, Nat.zero_le _, .inl ⟨rfl, rfl, rfl⟩, hH22⟩ ?_
  rintro kk l w24 ⟨k, lo, mo, rfl, hkk, hk, hks, hH25⟩ K23 hK23
  refine WC.seq fun K26 hK26 => ?_
  refine WC.region ?_
  by_cases hlt : (k : Int) < ((s + t : Nat) : Int)
  ·
    refine WL.pure (v := .bool true) 30 rfl (Nat.le_of_ble_eq_true rfl) rfl rfl (x_lss rfl rfl rfl (dT (hlt))) ?_
    refine WL.nil ?_
    refine WQ.then ?_
    refine hK26 _ _ _ ?_
    refine WC.seq fun K27 hK27 => ?_
    refine WC.yes rfl ?_
    refine WC.skip ?_
    refine WQ.then ?_
    refine hK27 _ _ _ ?_
    refine WC.seq fun K28 hK28 => ?_
    refine WC.block ?_
    refine WC.seq fun K29 hK29 => ?_
    refine WC.region ?_
    refine WL.pure (v := vI (k : Int)) 31 rfl (Nat.le_of_ble_eq_true rfl) rfl rfl (by kernel_rfl) ?_
    refine WL.pure (v := vI (k : Int)) 10 rfl (Nat.le_of_ble_eq_true rfl) rfl rfl (by kernel_rfl) ?_
    refine WL.nil ?_
    refine WQ.then ?_
    refine hK29 _ _ _ ?_
    refine WC.seq fun K30 hK30 => ?_
    have hb1 := adB (F := ((s + t : Nat) : Int)) (S := (0 : Int)) (M := (s : Int)) (m := (k : Int)) (A := 100) (by omega) (by omega) (by omega) (by omega) (by omega)
    have hb2 := adB (F := ((s + t : Nat) : Int)) (S := (0 : Int)) (M := (s : Int)) (m := (k : Int) + W) (A := 20000) (by omega) (by omega) (by omega) (by omega) (by omega)
    have hmono := ad_up (F := ((s + t : Nat) : Int)) (S := (0 : Int)) (M := (s : Int)) (m := (k : Int)) (d := W) (by omega) (by omega) (by omega) hW0
    refine WC.confG (γ := Unit) [(10, vI (k : Int)), (31, vI (k : Int)), (30, .bool true), (1, vI 0), (2, vI W), (6, vI lo), (7, vI mo), (9, vP bw 0), (28, vI ((s + t : Nat) : Int)), (29, vI (k : Int))] (fun _ => [.agg #[.slice po (s + t) co, vS g0 s c0, vS g1 t c1, .slice none 0 0, .slice none 0 0], vI 0, vI (k : Int), vI W, vI ((k : Int) + W), vI (ad ((s + t : Nat) : Int) (0 : Int) (s : Int) ((k : Int) + W)), .agg #[.slice po (s + t) co, vS g0 s c0, vS g1 t c1, .slice none 0 0, .slice none 0 0], vI 0, vI (k : Int), vI (ad ((s + t : Nat) : Int) (0 : Int) (s : Int) (k : Int)), vI (ad ((s + t : Nat) : Int) (0 : Int) (s : Int) ((k : Int) + W) - ad ((s + t : Nat) : Int) (0 : Int) (s : Int) (k : Int)), vI (ad ((s + t : Nat) : Int) (0 : Int) (s : Int) ((k : Int) + W) - ad ((s + t : Nat) : Int) (0 : Int) (s : Int) (k : Int))]) (fun _ D wz => HP Tr w wz [.own (.slice po (s + t) co) (s + t) xo 3 1, .own (vS g0 s c0) s (rng 0 s) 3 1, .own (vS g1 t c1) t (rng s t) 3 1, .cel bw #[.slice po (s + t) co, vS g0 s c0, vS g1 t c1, .slice none 0 0, .slice none 0 0] 71]) () (by kernel_rfl) ⟨rfl, rfl, rfl, rfl, rfl, rfl, rfl, rfl, rfl, rfl, trivial⟩ (by kernel_rfl) (by kernel_rfl) (by kernel_rfl) (fun _ => rfl) (by kernel_rfl) (HP.drew hH25) ?_ ?_
    · refine AllOk.cons ?o0 (AllOk.cons ?o1 (AllOk.cons ?o2 (AllOk.cons ?o3 (AllOk.cons ?o4 (AllOk.cons ?o5 (AllOk.cons ?o6 (AllOk.cons ?o7 (AllOk.cons ?o8 (AllOk.cons ?o9 (AllOk.cons ?o10 (AllOk.cons ?o11 (AllOk.nil _))))))))))))
      case o0 =>
        intro g D wz hDi hdep hclo hW
        exact .inl ⟨rfl, rfl, .inl ⟨g, wz, fun _ _ => rfl, x_loadS (cs := [.slice po (s + t) co, vS g0 s c0, vS g1 t c1, .slice none 0 0, .slice none 0 0]) rfl rfl Try.underlying71 rfl sz71 (HP.range hW 3 rfl rfl), hW⟩⟩
      case o1 =>
        intro g D wz hDi hdep hclo hW
        exact .inl ⟨rfl, rfl, .inl ⟨g, wz, fun _ _ => rfl, by kernel_rfl, hW⟩⟩
      case o2 =>
        intro g D wz hDi hdep hclo hW
        exact .inl ⟨rfl, rfl, .inl ⟨g, wz, fun _ _ => rfl, by kernel_rfl, hW⟩⟩
      case o3 =>
        intro g D wz hDi hdep hclo hW
        exact .inl ⟨rfl, rfl, .inl ⟨g, wz, fun _ _ => rfl, by kernel_rfl, hW⟩⟩
      case o4 =>
        intro g D wz hDi hdep hclo hW
        exact .inl ⟨rfl, rfl, .inl ⟨g, wz, fun _ _ => rfl, x_add (Z := (k : Int) + W) rfl rfl rfl (by omega) (by omega) (by omega), hW⟩⟩
      case o5 =>
        intro g D wz hDi hdep hclo hW
        exact .inl ⟨rfl, rfl, .inr (.inr ⟨82, #[.agg #[.slice po (s + t) co, vS g0 s c0, vS g1 t c1, .slice none 0 0, .slice none 0 0], vI 0, vI ((k : Int) + W)], by kernel_rfl, (before0_any po co g0 c0 g1 c1 s t ((k : Int) + W) _ (RR.own hW 1 rfl) (RR.own hW 2 rfl) hs ht (by omega) (by omega)).mono fun e w2 h => ⟨g, fun _ _ => rfl, h.1, HP.call hW h.2⟩⟩)⟩
      case o6 =>
        intro g D wz hDi hdep hclo hW
        exact .inl ⟨rfl, rfl, .inl ⟨g, wz, fun _ _ => rfl, x_loadS (cs := [.slice po (s + t) co, vS g0 s c0, vS g1 t c1, .slice none 0 0, .slice none 0 0]) rfl rfl Try.underlying71 rfl sz71 (HP.range hW 3 rfl rfl), hW⟩⟩
      case o7 =>
        intro g D wz hDi hdep hclo hW
        exact .inl ⟨rfl, rfl, .inl ⟨g, wz, fun _ _ => rfl, by kernel_rfl, hW⟩⟩
      case o8 =>
        intro g D wz hDi hdep hclo hW
        exact .inl ⟨rfl, rfl, .inl ⟨g, wz, fun _ _ => rfl, by kernel_rfl, hW⟩⟩
      case o9 =>
        intro g D wz hDi hdep hclo hW
        exact .inl ⟨rfl, rfl, .inr (.inr ⟨82, #[.agg #[.slice po (s + t) co, vS g0 s c0, vS g1 t c1, .slice none 0 0, .slice none 0 0], vI 0, vI (k : Int)], by kernel_rfl, (before0_any po co g0 c0 g1 c1 s t (k : Int) _ (RR.own hW 1 rfl) (RR.own hW 2 rfl) hs ht (by omega) (by omega)).mono fun e w2 h => ⟨g, fun _ _ => rfl, h.1, HP.call hW h.2⟩⟩)⟩
      case o10 =>
        intro g D wz hDi hdep hclo hW
        exact .inl ⟨rfl, rfl, .inl ⟨g, wz, fun _ _ => rfl, x_sub (Z := ad ((s + t : Nat) : Int) (0 : Int) (s : Int) ((k : Int) + W) - ad ((s + t : Nat) : Int) (0 : Int) (s : Int) (k : Int)) rfl rfl rfl (by omega) (by omega) (by omega), hW⟩⟩
      case o11 =>
        intro g D wz hDi hdep hclo hW
        exact .inl ⟨rfl, rfl, .inl ⟨g, wz, fun _ _ => rfl, by kernel_rfl, hW⟩⟩
    intro g D w31 hall hH32
    clear hall
    refine WQ.sub (l' := [(1, vI 0), (2, vI W), (6, vI lo), (7, vI mo), (9, vP bw 0), (10, vI (k : Int)), (11, vI (ad ((s + t : Nat) : Int) (0 : Int) (s : Int) ((k : Int) + W) - ad ((s + t : Nat) : Int) (0 : Int) (s : Int) (k : Int))), (28, vI ((s + t : Nat) : Int)), (29, vI (k : Int)), (30, .bool true)]) ⟨rfl, rfl, rfl, rfl, rfl, rfl, rfl, rfl, rfl, rfl, trivial⟩ ?_
    refine WQ.then ?_
    refine hK30 _ _ _ ?_
    refine WC.seq fun K33 hK33 => ?_
    refine WC.seq fun K34 hK34 => ?_
    refine WC.region ?_
    refine WL.pure (v := vI (k : Int)) 43 rfl (Nat.le_of_ble_eq_true rfl) rfl rfl (by kernel_rfl) ?_
    by_cases hz : (k : Int) = 0
    ·
      have hk0 : k = 0 := by omega
      rcases hks with ⟨_, rfl, rfl⟩ | ⟨j, q, _⟩
      rotate_left
      · omega
      refine WL.pure (v := .bool true) 44 rfl (Nat.le_of_ble_eq_true rfl) rfl rfl (x_eql rfl rfl rfl (dT (hz))) ?_
      refine WL.nil ?_
      refine WQ.then ?_
      refine hK34 _ _ _ ?_
      refine WC.yes rfl ?_
      refine WC.region ?_
      refine WL.pure (v := vI (ad ((s + t : Nat) : Int) (0 : Int) (s : Int) ((k : Int) + W) - ad ((s + t : Nat) : Int) (0 : Int) (s : Int) (k : Int))) 45 rfl (Nat.le_of_ble_eq_true rfl) rfl rfl (by kernel_rfl) ?_
      refine WL.pure (v := vI (ad ((s + t : Nat) : Int) (0 : Int) (s : Int) ((k : Int) + W) - ad ((s + t : Nat) : Int) (0 : Int) (s : Int) (k : Int))) 6 rfl (Nat.le_of_ble_eq_true rfl) rfl rfl (by kernel_rfl) ?_
      refine WL.nil ?_
      refine WQ.then ?_
      refine hK33 _ _ _ ?_
      refine WC.region ?_
      refine WL.pure (v := vI (ad ((s + t : Nat) : Int) (0 : Int) (s : Int) ((k : Int) + W) - ad ((s + t : Nat) : Int) (0 : Int) (s : Int) (k : Int))) 46 rfl (Nat.le_of_ble_eq_true rfl) rfl rfl (by kernel_rfl) ?_
      refine WL.pure (v := vI (ad ((s + t : Nat) : Int) (0 : Int) (s : Int) ((k : Int) + W) - ad ((s + t : Nat) : Int) (0 : Int) (s : Int) (k : Int))) 47 rfl (Nat.le_of_ble_eq_true rfl) rfl rfl (by kernel_rfl) ?_
      refine WL.pure (v := vI (mn (fun x => ad ((s + t : Nat) : Int) (0 : Int) (s : Int) (x + W) - ad ((s + t : Nat) : Int) (0 : Int) (s : Int) x) k)) 48 rfl (Nat.le_of_ble_eq_true rfl) rfl rfl (x_min (Z := mn (fun x => ad ((s + t : Nat) : Int) (0 : Int) (s : Int) (x + W) - ad ((s + t : Nat) : Int) (0 : Int) (s : Int) x) k) (t := 0) rfl rfl rfl (by rw [hk0]; split <;> rfl)) ?_
      refine WL.pure (v := vI 0) 49 rfl (Nat.le_of_ble_eq_true rfl) rfl rfl (by kernel_rfl) ?_
      refine WL.pure (v := vI (ad ((s + t : Nat) : Int) (0 : Int) (s : Int) ((k : Int) + W) - ad ((s + t : Nat) : Int) (0 : Int) (s : Int) (k : Int))) 50 rfl (Nat.le_of_ble_eq_true rfl) rfl rfl (by kernel_rfl) ?_
      refine WL.pure (v := vI (mx (fun x => ad ((s + t : Nat) : Int) (0 : Int) (s : Int) (x + W) - ad ((s + t : Nat) : Int) (0 : Int) (s : Int) x) k)) 51 rfl (Nat.le_of_ble_eq_true rfl) rfl rfl (x_max (Z := mx (fun x => ad ((s + t : Nat) : Int) (0 : Int) (s : Int) (x + W) - ad ((s + t : Nat) : Int) (0 : Int) (s : Int) x) k) (t := 0) rfl rfl rfl (by rw [show mx (fun x => ad ((s + t : Nat) : Int) (0 : Int) (s : Int) (x + W) - ad ((s + t : Nat) : Int) (0 : Int) (s : Int) x) k = ad ((s + t : Nat) : Int) (0 : Int) (s : Int) ((k : Int) + W) - ad ((s + t : Nat) : Int) (0 : Int) (s : Int) (k : Int) by rw [hk0]; rfl]; split <;> omega)) ?_
      refine WL.pure (v := vI (mn (fun x => ad ((s + t : Nat) : Int) (0 : Int) (s : Int) (x + W) - ad ((s + t : Nat) : Int) (0 : Int) (s : Int) x) k)) 6 rfl (Nat.le_of_ble_eq_true rfl) rfl rfl (by kernel_rfl) ?_
      refine WL.pure (v := vI (mx (fun x => ad ((s + t : Nat) : Int) (0 : Int) (s : Int) (x + W) - ad ((s + t : Nat) : Int) (0 : Int) (s : Int) x) k)) 7 rfl (Nat.le_of_ble_eq_true rfl) rfl rfl (by kernel_rfl) ?_
      refine WL.nil ?_
      refine WQ.inNormal ?_
      refine WQ.then ?_
      refine hK28 _ _ _ ?_
      refine WC.sub (l' := [(1, vI 0), (2, vI W), (6, vI (mn (fun x => ad ((s + t : Nat) : Int) (0 : Int) (s : Int) (x + W) - ad ((s + t : Nat) : Int) (0 : Int) (s : Int) x) k)), (7, vI (mx (fun x => ad ((s + t : Nat) : Int) (0 : Int) (s : Int) (x + W) - ad ((s + t : Nat) : Int) (0 : Int) (s : Int) x) k)), (9, vP bw 0), (10, vI (k : Int)), (11, vI (ad ((s + t : Nat) : Int) (0 : Int) (s : Int) ((k : Int) + W) - ad ((s + t : Nat) : Int) (0 : Int) (s : Int) (k : Int))), (28, vI ((s + t : Nat) : Int)), (29, vI (k : Int)), (30, .bool true), (44, .bool true)]) ⟨rfl, rfl, rfl, rfl, rfl, rfl, rfl, rfl, rfl, rfl, rfl, trivial⟩ ?_
      refine WC.region ?_
      refine WL.pure (v := vI ((k + 1 : Nat) : Int)) 52 rfl (Nat.le_of_ble_eq_true rfl) rfl rfl (x_add (Z := ((k + 1 : Nat) : Int)) rfl rfl rfl (by omega) (by omega) (by omega)) ?_
      refine WL.pure (v := vI ((k + 1 : Nat) : Int)) 29 rfl (Nat.le_of_ble_eq_true rfl) rfl rfl (by kernel_rfl) ?_
      refine WL.nil ?_
      refine WQ.sub (l' := [(1, vI 0), (2, vI W), (6, vI (mn (fun x => ad ((s + t : Nat) : Int) (0 : Int) (s : Int) (x + W) - ad ((s + t : Nat) : Int) (0 : Int) (s : Int) x) k)), (7, vI (mx (fun x => ad ((s + t : Nat) : Int) (0 : Int) (s : Int) (x + W) - ad ((s + t : Nat) : Int) (0 : Int) (s : Int) x) k)), (9, vP bw 0), (28, vI ((s + t : Nat) : Int)), (29, vI ((k + 1 : Nat) : Int))]) ⟨rfl, rfl, rfl, rfl, rfl, rfl, rfl, trivial⟩ ?_
      refine WQ.then (hK23 _ _ _ (by omega) ⟨k + 1, mn (fun x => ad ((s + t : Nat) : Int) (0 : Int) (s : Int) (x + W) - ad ((s + t : Nat) : Int) (0 : Int) (s : Int) x) k, mx (fun x => ad ((s + t : Nat) : Int) (0 : Int) (s : Int) (x + W) - ad ((s + t : Nat) : Int) (0 : Int) (s : Int) x) k, rfl, rfl, by omega, .inr ⟨k, rfl, rfl, rfl⟩, hH32⟩)
    ·
      obtain ⟨j, hj, hlo, hmo⟩ : ∃ j, k = j + 1 ∧ lo = mn (fun x => ad ((s + t : Nat) : Int) (0 : Int) (s : Int) (x + W) - ad ((s + t : Nat) : Int) (0 : Int) (s : Int) x) j ∧ mo = mx (fun x => ad ((s + t : Nat) : Int) (0 : Int) (s : Int) (x + W) - ad ((s + t : Nat) : Int) (0 : Int) (s : Int) x) j := by
        rcases hks with ⟨q, _, _⟩ | q
        · omega
        · exact q
      refine WL.pure (v := .bool false) 44 rfl (Nat.le_of_ble_eq_true rfl) rfl rfl (x_eql rfl rfl rfl (dF (hz))) ?_
      refine WL.nil ?_
      refine WQ.then ?_
      refine hK34 _ _ _ ?_
      refine WC.no rfl ?_
      refine WC.skip ?_
      refine WQ.then ?_
      refine hK33 _ _ _ ?_
      refine WC.region ?_
      refine WL.pure (v := vI lo) 46 rfl (Nat.le_of_ble_eq_true rfl) rfl rfl (by kernel_rfl) ?_
      refine WL.pure (v := vI (ad ((s + t : Nat) : Int) (0 : Int) (s : Int) ((k : Int) + W) - ad ((s + t : Nat) : Int) (0 : Int) (s : Int) (k : Int))) 47 rfl (Nat.le_of_ble_eq_true rfl) rfl rfl (by kernel_rfl) ?_
      refine WL.pure (v := vI (mn (fun x => ad ((s + t : Nat) : Int) (0 : Int) (s : Int) (x + W) - ad ((s + t : Nat) : Int) (0 : Int) (s : Int) x) k)) 48 rfl (Nat.le_of_ble_eq_true rfl) rfl rfl (x_min (Z := mn (fun x => ad ((s + t : Nat) : Int) (0 : Int) (s : Int) (x + W) - ad ((s + t : Nat) : Int) (0 : Int) (s : Int) x) k) (t := 0) rfl rfl rfl (by rw [hlo]; subst hj; rfl)) ?_
      refine WL.pure (v := vI mo) 49 rfl (Nat.le_of_ble_eq_true rfl) rfl rfl (by kernel_rfl) ?_
      refine WL.pure (v := vI (ad ((s + t : Nat) : Int) (0 : Int) (s : Int) ((k : Int) + W) - ad ((s + t : Nat) : Int) (0 : Int) (s : Int) (k : Int))) 50 rfl (Nat.le_of_ble_eq_true rfl) rfl rfl (by kernel_rfl) ?_
      refine WL.pure (v := vI (mx (fun x => ad ((s + t : Nat) : Int) (0 : Int) (s : Int) (x + W) - ad ((s + t : Nat) : Int) (0 : Int) (s : Int) x) k)) 51 rfl (Nat.le_of_ble_eq_true rfl) rfl rfl (x_max (Z := mx (fun x => ad ((s + t : Nat) : Int) (0 : Int) (s : Int) (x + W) - ad ((s + t : Nat) : Int) (0 : Int) (s : Int) x) k) (t := 0) rfl rfl rfl (by rw [hmo]; subst hj; rfl)) ?_
      refine WL.pure (v := vI (mn (fun x => ad ((s + t : Nat) : Int) (0 : Int) (s : Int) (x + W) - ad ((s + t : Nat) : Int) (0 : Int) (s : Int) x) k)) 6 rfl (Nat.le_of_ble_eq_true rfl) rfl rfl (by kernel_rfl) ?_
      refine WL.pure (v := vI (mx (fun x => ad ((s + t : Nat) : Int) (0 : Int) (s : Int) (x + W) - ad ((s + t : Nat) : Int) (0 : Int) (s : Int) x) k)) 7 rfl (Nat.le_of_ble_eq_true rfl) rfl rfl (by kernel_rfl) ?_
      refine WL.nil ?_
      refine WQ.inNormal ?_
      refine WQ.then ?_
      refine hK28 _ _ _ ?_
      refine WC.sub (l' := [(1, vI 0), (2, vI W), (6, vI (mn (fun x => ad ((s + t : Nat) : Int) (0 : Int) (s : Int) (x + W) - ad ((s + t : Nat) : Int) (0 : Int) (s : Int) x) k)), (7, vI (mx (fun x => ad ((s + t : Nat) : Int) (0 : Int) (s : Int) (x + W) - ad ((s + t : Nat) : Int) (0 : Int) (s : Int) x) k)), (9, vP bw 0), (10, vI (k : Int)), (11, vI (ad ((s + t : Nat) : Int) (0 : Int) (s : Int) ((k : Int) + W) - ad ((s + t : Nat) : Int) (0 : Int) (s : Int) (k : Int))), (28, vI ((s + t : Nat) : Int)), (29, vI (k : Int)), (30, .bool true), (44, .bool false)]) ⟨rfl, rfl, rfl, rfl, rfl, rfl, rfl, rfl, rfl, rfl, rfl, trivial⟩ ?_
      refine WC.region ?_
      refine WL.pure (v := vI ((k + 1 : Nat) : Int)) 52 rfl (Nat.le_of_ble_eq_true rfl) rfl rfl (x_add (Z := ((k + 1 : Nat) : Int)) rfl rfl rfl (by omega) (by omega) (by omega)) ?_
      refine WL.pure (v := vI ((k + 1 : Nat) : Int)) 29 rfl (Nat.le_of_ble_eq_true rfl) rfl rfl (by kernel_rfl) ?_
      refine WL.nil ?_
      refine WQ.sub (l' := [(1, vI 0), (2, vI W), (6, vI (mn (fun x => ad ((s + t : Nat) : Int) (0 : Int) (s : Int) (x + W) - ad ((s + t : Nat) : Int) (0 : Int) (s : Int) x) k)), (7, vI (mx (fun x => ad ((s + t : Nat) : Int) (0 : Int) (s : Int) (x + W) - ad ((s + t : Nat) : Int) (0 : Int) (s : Int) x) k)), (9, vP bw 0), (28, vI ((s + t : Nat) : Int)), (29, vI ((k + 1 : Nat) : Int))]) ⟨rfl, rfl, rfl, rfl, rfl, rfl, rfl, trivial⟩ ?_
      refine WQ.then (hK23 _ _ _ (by omega) ⟨k + 1, mn (fun x => ad ((s + t : Nat) : Int) (0 : Int) (s : Int) (x + W) - ad ((s + t : Nat) : Int) (0 : Int) (s : Int) x) k, mx (fun x => ad ((s + t : Nat) : Int) (0 : Int) (s : Int) (x + W) - ad ((s + t : Nat) : Int) (0 : Int) (s : Int) x) k, rfl, rfl, by omega, .inr ⟨k, rfl, rfl, rfl⟩, hH32⟩)
  ·
    refine WL.pure (v := .bool false) 30 rfl (Nat.le_of_ble_eq_true rfl) rfl rfl (x_lss rfl rfl rfl (dF (hlt))) ?_
    refine WL.nil ?_
    refine WQ.then ?_
    refine hK26 _ _ _ ?_
    refine WC.seq fun K35 hK35 => ?_
    refine WC.no rfl ?_
    refine WC.exit ?_
    refine WQ.thenExit ?_
    refine WQ.thenExit ?_
    refine WQ.inExit ?_
    refine WQ.then ?_
    refine hK18 _ _ _ ?_
    refine WC.seq fun K36 hK36 => ?_
    refine WC.region ?_
    refine WL.pure (v := vI lo) 53 rfl (Nat.le_of_ble_eq_true rfl) rfl rfl (by kernel_rfl) ?_
    refine WL.pure (v := vI mo) 54 rfl (Nat.le_of_ble_eq_true rfl) rfl rfl (by kernel_rfl) ?_
    refine WL.pure (v := vI lo) 6 rfl (Nat.le_of_ble_eq_true rfl) rfl rfl (by kernel_rfl) ?_
    refine WL.pure (v := vI mo) 7 rfl (Nat.le_of_ble_eq_true rfl) rfl rfl (by kernel_rfl) ?_
    refine WL.pure (v := vI 0) 8 rfl (Nat.le_of_ble_eq_true rfl) rfl rfl (by kernel_rfl) ?_
    refine WL.nil ?_
    refine WQ.then ?_
    refine hK36 _ _ _ ?_
    refine WC.ret ?_
    refine WQ.ret3 6 7 8 rfl rfl rfl rfl ?_
    rcases hks with ⟨q, _, _⟩ | ⟨j, hj, rfl, rfl⟩
    · omega
    · exact ⟨j, by omega, rfl, HP.below hH25⟩
set_option maxRecDepth 20000 in
set_option maxHeartbeats 4000000 in
theorem windows1_any (bb oo s t : Nat) (W : Int) (w : World) (hr : LR w bb oo s t) (hs : 1 ≤ s ∧ s ≤ 50) (ht : 1 ≤ t ∧ t ≤ 50) (hW0 : 0 ≤ W) (hW1 : W ≤ 10000) :
    Calls Try.prog 63 #[.slice (some ⟨bb, oo, none⟩) 2 2, vI 1, vI W] w fun e w' => ∃ j : Nat, s + t = j + 1 ∧ e = .returned (.tuple #[.int .i64 (mn (fun x => ad ((s + t : Nat) : Int) (s : Int) (t : Int) (x + W) - ad ((s + t : Nat) : Int) (s : Int) (t : Int) x) j), .int .i64 (mx (fun x => ad ((s + t : Nat) : Int) (s : Int) (t : Int) (x + W) - ad ((s + t : Nat) : Int) (s : Int) (t : Int) x) j), .int .i64 0]) ∧ Below w.heap.size w w' := by
  refine calls_of Try.func63 rfl (m := 55) rfl [(0, .slice (some ⟨bb, oo, none⟩) 2 2), (1, vI 1), (2, vI W)] (Fr_enter [.slice (some ⟨bb, oo, none⟩) 2 2, vI 1, vI W] 55 (Nat.le_of_ble_eq_true rfl)) ?_
  have hH1 : HP Tr w w [] := HP.refl w
  refine WC.seq fun K2 hK2 => ?_
  refine WC.region ?_
  refine WL.pure (v := vI 0) 6 rfl (Nat.le_of_ble_eq_true rfl) rfl rfl (by kernel_rfl) ?_
  refine WL.pure (v := vI 0) 7 rfl (Nat.le_of_ble_eq_true rfl) rfl rfl (by kernel_rfl) ?_
  refine WL.pure (v := vI 0) 8 rfl (Nat.le_of_ble_eq_true rfl) rfl rfl (by kernel_rfl) ?_
  refine WL.nil ?_
  refine WQ.then ?_
  refine hK2 _ _ _ ?_
  refine WC.seq fun K3 hK3 => ?_
  refine WC.seq fun K4 hK4 => ?_
  refine WC.region ?_
  refine WL.pure (v := .slice (some ⟨bb, oo, none⟩) 2 2) 12 rfl (Nat.le_of_ble_eq_true rfl) rfl rfl (by kernel_rfl) ?_
  refine WL.call (f := 64) (args := #[.slice (some ⟨bb, oo, none⟩) 2 2]) 13 rfl (Nat.le_of_ble_eq_true rfl) rfl rfl (by kernel_rfl) ?_
  refine (bvalid_any _ _ s t _ (hr.below (HP.below hH1)) hs ht).mono ?_
  rintro e w5 ⟨rfl, hb6⟩
  refine ⟨_, rfl, ?_⟩
  have hH7 : HP Tr w _ [] := HP.call hH1 hb6
  refine WL.pure (v := .bool false) 14 rfl (Nat.le_of_ble_eq_true rfl) rfl rfl (by kernel_rfl) ?_
  refine WL.pure (v := .bool false) 15 rfl (Nat.le_of_ble_eq_true rfl) rfl rfl (by kernel_rfl) ?_
  refine WL.pure (v := vI 1) 16 rfl (Nat.le_of_ble_eq_true rfl) rfl rfl (by kernel_rfl) ?_
  refine WL.call (f := 79) (args := #[vI 1]) 17 rfl (Nat.le_of_ble_eq_true rfl) rfl rfl (by kernel_rfl) ?_
  refine (isMaster_any _ _).mono ?_
  rintro e w8 ⟨rfl, rfl⟩
  refine ⟨_, rfl, ?_⟩
  refine WL.pure (v := .bool false) 18 rfl (Nat.le_of_ble_eq_true rfl) rfl rfl (by kernel_rfl) ?_
  refine WL.pure (v := .bool false) 19 rfl (Nat.le_of_ble_eq_true rfl) rfl rfl (by kernel_rfl) ?_
  refine WL.pure (v := .bool false) 20 rfl (Nat.le_of_ble_eq_true rfl) rfl rfl (by kernel_rfl) ?_
  refine WL.pure (v := vI W) 21 rfl (Nat.le_of_ble_eq_true rfl) rfl rfl (by kernel_rfl) ?_
  have qw := bwithin_any W 10000
  rw [dT hW0, dT hW1] at qw
  refine WL.call (f := 80) (args := #[vI W, vI 10000]) 22 rfl (Nat.le_of_ble_eq_true rfl) rfl rfl (by kernel_rfl) ?_
  refine (qw _).mono ?_
  rintro e w9 ⟨rfl, rfl⟩
  refine ⟨_, rfl, ?_⟩
  refine WL.pure (v := .bool false) 23 rfl (Nat.le_of_ble_eq_true rfl) rfl rfl (by kernel_rfl) ?_
  refine WL.pure (v := .bool false) 24 rfl (Nat.le_of_ble_eq_true rfl) rfl rfl (by kernel_rfl) ?_
  refine WL.nil ?_
  refine WQ.then ?_
  refine hK4 _ _ _ ?_
  refine WC.sub (l' := [(0, .slice (some ⟨bb, oo, none⟩) 2 2), (1, vI 1), (2, vI W), (6, vI 0), (7, vI 0), (8, vI 0), (24, .bool false)]) ⟨rfl, rfl, rfl, rfl, rfl, rfl, rfl, trivial⟩ ?_
  refine WC.no rfl ?_
  refine WC.skip ?_
  refine WQ.then ?_
  refine hK3 _ _ _ ?_
  refine WC.seq fun K10 hK10 => ?_
  refine WC.region ?_
  refine WL.pure (v := .slice (some ⟨bb, oo, none⟩) 2 2) 25 rfl (Nat.le_of_ble_eq_true rfl) rfl rfl (by kernel_rfl) ?_
  refine WL.call (f := 66) (args := #[.slice (some ⟨bb, oo, none⟩) 2 2]) 26 rfl (Nat.le_of_ble_eq_true rfl) rfl rfl (by kernel_rfl) ?_
  refine (turning_any _ _ s t _ (hr.below (HP.below hH7)) hs ht).mono ?_
  rintro e w11 ⟨po, co, g0, c0, g1, c1, xo, rfl, hb12⟩
  refine ⟨_, rfl, ?_⟩
  have hH13 : HP Tr w _ [.own (.slice po (s + t) co) (s + t) xo 3 1, .own (vS g0 s c0) s (rng 0 s) 3 1, .own (vS g1 t c1) t (rng s t) 3 1] := HP.trans hH7 hb12
  refine WL.alloc (c := #[.slice none 0 0, .slice none 0 0, .slice none 0 0, .slice none 0 0, .slice none 0 0]) (T := 71) hH13 9 rfl (by decide) rfl rfl (fun bw => vP bw 0) (by kernel_rfl) (fun bw w14 hw14 => ?_)
  have hH15 : HP Tr w w14 [.own (.slice po (s + t) co) (s + t) xo 3 1, .own (vS g0 s c0) s (rng 0 s) 3 1, .own (vS g1 t c1) t (rng s t) 3 1, .cel bw #[.slice none 0 0, .slice none 0 0, .slice none 0 0, .slice none 0 0, .slice none 0 0] 71] := hw14.2
  have nbw := hw14.1
  clear hw14
  refine WL.storeS (H2 := [.own (.slice po (s + t) co) (s + t) xo 3 1, .own (vS g0 s c0) s (rng 0 s) 3 1, .own (vS g1 t c1) t (rng s t) 3 1, .cel bw #[.slice po (s + t) co, vS g0 s c0, vS g1 t c1, .slice none 0 0, .slice none 0 0] 71]) 3 hH15 rfl rfl rfl rfl rfl rfl sz71 rfl (Nat.le_of_ble_eq_true rfl) rfl rfl ?_
  intro w16 hH17
  refine WL.nil ?_
  refine WQ.then ?_
  refine hK10 _ _ _ ?_
  refine WC.seq fun K18 hK18 => ?_
  refine WC.seq fun K19 hK19 => ?_
  refine WC.region ?_
  refine WL.pure (v := .agg #[.slice po (s + t) co, vS g0 s c0, vS g1 t c1, .slice none 0 0, .slice none 0 0]) 27 rfl (Nat.le_of_ble_eq_true rfl) rfl rfl (x_loadS (cs := [.slice po (s + t) co, vS g0 s c0, vS g1 t c1, .slice none 0 0, .slice none 0 0]) rfl rfl Try.underlying71 rfl sz71 (HP.range hH17 3 rfl rfl)) ?_
  refine WL.call (f := 81) (args := #[.agg #[.slice po (s + t) co, vS g0 s c0, vS g1 t c1, .slice none 0 0, .slice none 0 0]]) 28 rfl (Nat.le_of_ble_eq_true rfl) rfl rfl (by kernel_rfl) ?_
  refine (period_any po co g0 c0 g1 c1 s t _).mono ?_
  rintro e w20 ⟨rfl, hb21⟩
  refine ⟨_, rfl, ?_⟩
  have hH22 : HP Tr w _ [.own (.slice po (s + t) co) (s + t) xo 3 1, .own (vS g0 s c0) s (rng 0 s) 3 1, .own (vS g1 t c1) t (rng s t) 3 1, .cel bw #[.slice po (s + t) co, vS g0 s c0, vS g1 t c1, .slice none 0 0, .slice none 0 0] 71] := HP.call hH17 hb21
  refine WL.pure (v := vI 0) 29 rfl (Nat.le_of_ble_eq_true rfl) rfl rfl (by kernel_rfl) ?_
  refine WL.nil ?_
  refine WQ.then ?_
  refine hK19 _ _ _ ?_
  refine WC.block ?_
  refine WC.loop (fun kk0 ll0 ww0 => ∃ (k : Nat) (lo : Int) (mo : Int), ll0 = [(1, vI 1), (2, vI W), (6, vI lo), (7, vI mo), (9, vP bw 0), (28, vI ((s + t : Nat) : Int)), (29, vI (k : Int))] ∧ kk0 = s + t - k ∧ (k ≤ s + t) ∧ ((k = 0 ∧ lo = 0 ∧ mo = 0) ∨ (∃ j, k = j + 1 ∧ lo = mn (fun x => ad ((s + t : Nat) : Int) (s : Int) (t : Int) (x + W) - ad ((s + t : Nat) : Int) (s : Int) (t : Int) x) j ∧ mo = mx (fun x => ad ((s + t : Nat) : Int) (s : Int) (t : Int) (x + W) - ad ((s + t : Nat) : Int) (s : Int) (t : Int) x) j)) ∧ HP Tr w ww0 [.own (.slice po (s + t) co) (s + t) xo 3 1, .own (vS g0 s c0) s (rng 0 s) 3 1, .own (vS g1 t c1) t (rng s t) 3 1, .cel bw #[.slice po (s + t) co, vS g0 s c0, vS g1 t c1, .slice none 0 0, .slice none 0 0] 71]) (s + t) [(1, vI 1), (2, vI W), (6, vI 0), (7, vI 0), (9, vP bw 0), (28, vI ((s + t : Nat) : Int)), (29, vI 0)] ⟨rfl, rfl, rfl, rfl, rfl, rfl, rfl, trivial⟩ ⟨0, 0, 0, rfl, rfl, Nat.zero_le _, .inl ⟨rfl, rfl, rfl⟩, hH22⟩ ?_
  rintro kk l w24 ⟨k, lo, mo, rfl, hkk, hk, hks, hH25⟩ K23 hK23
  refine WC.seq fun K26 hK26 => ?_
  refine WC.region ?_
  by_cases hlt : (k : Int) < ((s + t : Nat) : Int)
  ·
    refine WL.pure (v := .bool true) 30 rfl (Nat.le_of_ble_eq_true rfl) rfl rfl (x_lss rfl rfl rfl (dT (hlt))) ?_
    refine WL.nil ?_
    refine WQ.then ?_
    refine hK26 _ _ _ ?_
    refine WC.seq fun K27 hK27 => ?_
    refine WC.yes rfl ?_
    refine WC.skip ?_
    refine WQ.then ?_
    refine hK27 _ _ _ ?_
    refine WC.seq fun K28 hK28 => ?_
    refine WC.block ?_
    refine WC.seq fun K29 hK29 => ?_
    refine WC.region ?_
    refine WL.pure (v := vI (k : Int)) 31 rfl (Nat.le_of_ble_eq_true rfl) rfl rfl (by kernel_rfl) ?_
    refine WL.pure (v := vI (k : Int)) 10 rfl (Nat.le_of_ble_eq_true rfl) rfl rfl (by kernel_rfl) ?_
    refine WL.nil ?_
    refine WQ.then ?_
    refine hK29 _ _ _ ?_
    refine WC.seq fun K30 hK30 => ?_
    have hb1 := adB (F := ((s + t : Nat) : Int)) (S := (s : Int)) (M := (t : Int)) (m := (k : Int)) (A := 100) (by omega) (by omega) (by omega) (by omega) (by omega)
    have hb2 := adB (F := ((s + t : Nat) : Int)) (S := (s : Int)) (M := (t : Int)) (m := (k : Int) + W) (A := 20000) (by omega) (by omega) (by omega) (by omega) (by omega)
    have hmono := ad_up (F := ((s + t : Nat) : Int)) (S := (s : Int)) (M := (t : Int)) (m := (k : Int)) (d := W) (by omega) (by omega) (by omega) hW0
    refine WC.confG (γ := Unit) [(10, vI (k : Int)), (31, vI (k : Int)), (30, .bool true), (1, vI 1), (2, vI W), (6, vI lo), (7, vI mo), (9, vP bw 0), (28, vI ((s + t : Nat) : Int)), (29, vI (k : Int))] (fun _ => [.agg #[.slice po (s + t) co, vS g0 s c0, vS g1 t c1, .slice none 0 0, .slice none 0 0], vI 1, vI (k : Int), vI W, vI ((k : Int) + W), vI (ad ((s + t : Nat) : Int) (s : Int) (t : Int) ((k : Int) + W)), .agg #[.slice po (s + t) co, vS g0 s c0, vS g1 t c1, .slice none 0 0, .slice none 0 0], vI 1, vI (k : Int), vI (ad ((s + t : Nat) : Int) (s : Int) (t : Int) (k : Int)), vI (ad ((s + t : Nat) : Int) (s : Int) (t : Int) ((k : Int) + W) - ad ((s + t : Nat) : Int) (s : Int) (t : Int) (k : Int)), vI (ad ((s + t : Nat) : Int) (s : Int) (t : Int) ((k : Int) + W) - ad ((s + t : Nat) : Int) (s : Int) (t : Int) (k : Int))]) (fun _ D wz => HP Tr w wz [.own (.slice po (s + t) co) (s + t) xo 3 1, .own (vS g0 s c0) s (rng 0 s) 3 1, .own (vS g1 t c1) t (rng s t) 3 1, .cel bw #[.slice po (s + t) co, vS g0 s c0, vS g1 t c1, .slice none 0 0, .slice none 0 0] 71]) () (by kernel_rfl) ⟨rfl, rfl, rfl, rfl, rfl, rfl, rfl, rfl, rfl, rfl, trivial⟩ (by kernel_rfl) (by kernel_rfl) (by kernel_rfl) (fun _ => rfl) (by kernel_rfl) (HP.drew hH25) ?_ ?_
    · refine AllOk.cons ?o0 (AllOk.cons ?o1 (AllOk.cons ?o2 (AllOk.cons ?o3 (AllOk.cons ?o4 (AllOk.cons ?o5 (AllOk.cons ?o6 (AllOk.cons ?o7 (AllOk.cons ?o8 (AllOk.cons ?o9 (AllOk.cons ?o10 (AllOk.cons ?o11 (AllOk.nil _))))))))))))
      case o0 =>
        intro g D wz hDi hdep hclo hW
        exact .inl ⟨rfl, rfl, .inl ⟨g, wz, fun _ _ => rfl, x_loadS (cs := [.slice po (s + t) co, vS g0 s c0, vS g1 t c1, .slice none 0 0, .slice none 0 0]) rfl rfl Try.underlying71 rfl sz71 (HP.range hW 3 rfl rfl), hW⟩⟩
      case o1 =>
        intro g D wz hDi hdep hclo hW
        exact .inl ⟨rfl, rfl, .inl ⟨g, wz, fun _ _ => rfl, by kernel_rfl, hW⟩⟩
      case o2 =>
        intro g D wz hDi hdep hclo hW
        exact .inl ⟨rfl, rfl, .inl ⟨g, wz, fun _ _ => rfl, by kernel_rfl, hW⟩⟩
      case o3 =>
        intro g D wz hDi hdep hclo hW
        exact .inl ⟨rfl, rfl, .inl ⟨g, wz, fun _ _ => rfl, by kernel_rfl, hW⟩⟩
      case o4 =>
        intro g D wz hDi hdep hclo hW
        exact .inl ⟨rfl, rfl, .inl ⟨g, wz, fun _ _ => rfl, x_add (Z := (k : Int) + W) rfl rfl rfl (by omega) (by omega) (by omega), hW⟩⟩
      case o5 =>
        intro g D wz hDi hdep hclo hW
        exact .inl ⟨rfl, rfl, .inr (.inr ⟨82, #[.agg #[.slice po (s + t) co, vS g0 s c0, vS g1 t c1, .slice none 0 0, .slice none 0 0], vI 1, vI ((k : Int) + W)], by kernel_rfl, (before1_any po co g0 c0 g1 c1 s t ((k : Int) + W) _ (RR.own hW 1 rfl) (RR.own hW 2 rfl) hs ht (by omega) (by omega)).mono fun e w2 h => ⟨g, fun _ _ => rfl, h.1, HP.call hW h.2⟩⟩)⟩
      case o6 =>
        intro g D wz hDi hdep hclo hW
        exact .inl ⟨rfl, rfl, .inl ⟨g, wz, fun _ _ => rfl, x_loadS (cs := [.slice po (s + t) co, vS g0 s c0, vS g1 t c1, .slice none 0 0, .slice none 0 0]) rfl rfl Try.underlying71 rfl sz71 (HP.range hW 3 rfl rfl), hW⟩⟩
      case o7 =>
        intro g D wz hDi hdep hclo hW
        exact .inl ⟨rfl, rfl, .inl ⟨g, wz, fun _ _ => rfl, by kernel_rfl, hW⟩⟩
      case o8 =>
        intro g D wz hDi hdep hclo hW
        exact .inl ⟨rfl, rfl, .inl ⟨g, wz, fun _ _ => rfl, by kernel_rfl, hW⟩⟩
      case o9 =>
        intro g D wz hDi hdep hclo hW
        exact .inl ⟨rfl, rfl, .inr (.inr ⟨82, #[.agg #[.slice po (s + t) co, vS g0 s c0, vS g1 t c1, .slice none 0 0, .slice none 0 0], vI 1, vI (k : Int)], by kernel_rfl, (before1_any po co g0 c0 g1 c1 s t (k : Int) _ (RR.own hW 1 rfl) (RR.own hW 2 rfl) hs ht (by omega) (by omega)).mono fun e w2 h => ⟨g, fun _ _ => rfl, h.1, HP.call hW h.2⟩⟩)⟩
      case o10 =>
        intro g D wz hDi hdep hclo hW
        exact .inl ⟨rfl, rfl, .inl ⟨g, wz, fun _ _ => rfl, x_sub (Z := ad ((s + t : Nat) : Int) (s : Int) (t : Int) ((k : Int) + W) - ad ((s + t : Nat) : Int) (s : Int) (t : Int) (k : Int)) rfl rfl rfl (by omega) (by omega) (by omega), hW⟩⟩
      case o11 =>
        intro g D wz hDi hdep hclo hW
        exact .inl ⟨rfl, rfl, .inl ⟨g, wz, fun _ _ => rfl, by kernel_rfl, hW⟩⟩
    intro g D w31 hall hH32
    clear hall
    refine WQ.sub (l' := [(1, vI 1), (2, vI W), (6, vI lo), (7, vI mo), (9, vP bw 0), (10, vI (k : Int)), (11, vI (ad ((s + t : Nat) : Int) (s : Int) (t : Int) ((k : Int) + W) - ad ((s + t : Nat) : Int) (s : Int) (t : Int) (k : Int))), (28, vI ((s + t : Nat) : Int)), (29, vI (k : Int)), (30, .bool true)]) ⟨rfl, rfl, rfl, rfl, rfl, rfl, rfl, rfl, rfl, rfl, trivial⟩ ?_
    refine WQ.then ?_
    refine hK30 _ _ _ ?_
    refine WC.seq fun K33 hK33 => ?_
    refine WC.seq fun K34 hK34 => ?_
    refine WC.region ?_
    refine WL.pure (v := vI (k : Int)) 43 rfl (Nat.le_of_ble_eq_true rfl) rfl rfl (by kernel_rfl) ?_
    by_cases hz : (k : Int) = 0
    ·
      have hk0 : k = 0 := by omega
      rcases hks with ⟨_, rfl, rfl⟩ | ⟨j, q, _⟩
      rotate_left
      · omega
      refine WL.pure (v := .bool true) 44 rfl (Nat.le_of_ble_eq_true rfl) rfl rfl (x_eql rfl rfl rfl (dT (hz))) ?_
      refine WL.nil ?_
      refine WQ.then ?_
      refine hK34 _ _ _ ?_
      refine WC.yes rfl ?_
      refine WC.region ?_
      refine WL.pure (v := vI (ad ((s + t : Nat) : Int) (s : Int) (t : Int) ((k : Int) + W) - ad ((s + t : Nat) : Int) (s : Int) (t : Int) (k : Int))) 45 rfl (Nat.le_of_ble_eq_true rfl) rfl rfl (by kernel_rfl) ?_
      refine WL.pure (v := vI (ad ((s + t : Nat) : Int) (s : Int) (t : Int) ((k : Int) + W) - ad ((s + t : Nat) : Int) (s : Int) (t : Int) (k : Int))) 6 rfl (Nat.le_of_ble_eq_true rfl) rfl rfl (by kernel_rfl) ?_
      refine WL.nil ?_
      refine WQ.then ?_
      refine hK33 _ _ _ ?_
      refine WC.region ?_
      refine WL.pure (v := vI (ad ((s + t : Nat) : Int) (s : Int) (t : Int) ((k : Int) + W) - ad ((s + t : Nat) : Int) (s : Int) (t : Int) (k : Int))) 46 rfl (Nat.le_of_ble_eq_true rfl) rfl rfl (by kernel_rfl) ?_
      refine WL.pure (v := vI (ad ((s + t : Nat) : Int) (s : Int) (t : Int) ((k : Int) + W) - ad ((s + t : Nat) : Int) (s : Int) (t : Int) (k : Int))) 47 rfl (Nat.le_of_ble_eq_true rfl) rfl rfl (by kernel_rfl) ?_
      refine WL.pure (v := vI (mn (fun x => ad ((s + t : Nat) : Int) (s : Int) (t : Int) (x + W) - ad ((s + t : Nat) : Int) (s : Int) (t : Int) x) k)) 48 rfl (Nat.le_of_ble_eq_true rfl) rfl rfl (x_min (Z := mn (fun x => ad ((s + t : Nat) : Int) (s : Int) (t : Int) (x + W) - ad ((s + t : Nat) : Int) (s : Int) (t : Int) x) k) (t := 0) rfl rfl rfl (by rw [hk0]; split <;> rfl)) ?_
      refine WL.pure (v := vI 0) 49 rfl (Nat.le_of_ble_eq_true rfl) rfl rfl (by kernel_rfl) ?_
      refine WL.pure (v := vI (ad ((s + t : Nat) : Int) (s : Int) (t : Int) ((k : Int) + W) - ad ((s + t : Nat) : Int) (s : Int) (t : Int) (k : Int))) 50 rfl (Nat.le_of_ble_eq_true rfl) rfl rfl (by kernel_rfl) ?_
      refine WL.pure (v := vI (mx (fun x => ad ((s + t : Nat) : Int) (s : Int) (t : Int) (x + W) - ad ((s + t : Nat) : Int) (s : Int) (t : Int) x) k)) 51 rfl (Nat.le_of_ble_eq_true rfl) rfl rfl (x_max (Z := mx (fun x => ad ((s + t : Nat) : Int) (s : Int) (t : Int) (x + W) - ad ((s + t : Nat) : Int) (s : Int) (t : Int) x) k) (t := 0) rfl rfl rfl (by rw [show mx (fun x => ad ((s + t : Nat) : Int) (s : Int) (t : Int) (x + W) - ad ((s + t : Nat) : Int) (s : Int) (t : Int) x) k = ad ((s + t : Nat) : Int) (s : Int) (t : Int) ((k : Int) + W) - ad ((s + t : Nat) : Int) (s : Int) (t : Int) (k : Int) by rw [hk0]; rfl]; split <;> omega)) ?_
      refine WL.pure (v := vI (mn (fun x => ad ((s + t : Nat) : Int) (s : Int) (t : Int) (x + W) - ad ((s + t : Nat) : Int) (s : Int) (t : Int) x) k)) 6 rfl (Nat.le_of_ble_eq_true rfl) rfl rfl (by kernel_rfl) ?_
      refine WL.pure (v := vI (mx (fun x => ad ((s + t : Nat) : Int) (s : Int) (t : Int) (x + W) - ad ((s + t : Nat) : Int) (s : Int) (t : Int) x) k)) 7 rfl (Nat.le_of_ble_eq_true rfl) rfl rfl (by kernel_rfl) ?_
      refine WL.nil ?_
      refine WQ.inNormal ?_
      refine WQ.then ?_
      refine hK28 _ _ _ ?_
      refine WC.sub (l' := [(1, vI 1), (2, vI W), (6, vI (mn (fun x => ad ((s + t : Nat) : Int) (s : Int) (t : Int) (x + W) - ad ((s + t : Nat) : Int) (s : Int) (t : Int) x) k)), (7, vI (mx (fun x => ad ((s + t : Nat) : Int) (s : Int) (t : Int) (x + W) - ad ((s + t : Nat) : Int) (s : Int) (t : Int) x) k)), (9, vP bw 0), (10, vI (k : Int)), (11, vI (ad ((s + t : Nat) : Int) (s : Int) (t : Int) ((k : Int) + W) - ad ((s + t : Nat) : Int) (s : Int) (t : Int) (k : Int))), (28, vI ((s + t : Nat) : Int)), (29, vI (k : Int)), (30, .bool true), (44, .bool true)]) ⟨rfl, rfl, rfl, rfl, rfl, rfl, rfl, rfl, rfl, rfl, rfl, trivial⟩ ?_
      refine WC.region ?_
      refine WL.pure (v := vI ((k + 1 : Nat) : Int)) 52 rfl (Nat.le_of_ble_eq_true rfl) rfl rfl (x_add (Z := ((k + 1 : Nat) : Int)) rfl rfl rfl (by omega) (by omega) (by omega)) ?_
      refine WL.pure (v := vI ((k + 1 : Nat) : Int)) 29 rfl (Nat.le_of_ble_eq_true rfl) rfl rfl (by kernel_rfl) ?_
      refine WL.nil ?_
      refine WQ.sub (l' := [(1, vI 1), (2, vI W), (6, vI (mn (fun x => ad ((s + t : Nat) : Int) (s : Int) (t : Int) (x + W) - ad ((s + t : Nat) : Int) (s : Int) (t : Int) x) k)), (7, vI (mx (fun x => ad ((s + t : Nat) : Int) (s : Int) (t : Int) (x + W) - ad ((s + t : Nat) : Int) (s : Int) (t : Int) x) k)), (9, vP bw 0), (28, vI ((s + t : Nat) : Int)), (29, vI ((k + 1 : Nat) : Int))]) ⟨rfl, rfl, rfl, rfl, rfl, rfl, rfl, trivial⟩ ?_
      refine WQ.then (hK23 _ _ _ (by omega) ⟨k + 1, mn (fun x => ad ((s + t : Nat) : Int) (s : Int) (t : Int) (x + W) - ad ((s + t : Nat) : Int) (s : Int) (t : Int) x) k, mx (fun x => ad ((s + t : Nat) : Int) (s : Int) (t : Int) (x + W) - ad ((s + t : Nat) : Int) (s : Int) (t : Int) x) k, rfl, rfl, by omega, .inr ⟨k, rfl, rfl, rfl⟩, hH32⟩)
    ·
      obtain ⟨j, hj, hlo, hmo⟩ : ∃ j, k = j + 1 ∧ lo = mn (fun x => ad ((s + t : Nat) : Int) (s : Int) (t : Int) (x + W) - ad ((s + t : Nat) : Int) (s : Int) (t : Int) x) j ∧ mo = mx (fun x => ad ((s + t : Nat) : Int) (s : Int) (t : Int) (x + W) - ad ((s + t : Nat) : Int) (s : Int) (t : Int) x) j := by
        rcases hks with ⟨q, _, _⟩ | q
        · omega
        · exact q
      refine WL.pure (v := .bool false) 44 rfl (Nat.le_of_ble_eq_true rfl) rfl rfl (x_eql rfl rfl rfl (dF (hz))) ?_
      refine WL.nil ?_
      refine WQ.then ?_
      refine hK34 _ _ _ ?_
      refine WC.no rfl ?_
      refine WC.skip ?_
      refine WQ.then ?_
      refine hK33 _ _ _ ?_
      refine WC.region ?_
      refine WL.pure (v := vI lo) 46 rfl (Nat.le_of_ble_eq_true rfl) rfl rfl (by kernel_rfl) ?_
      refine WL.pure (v := vI (ad ((s + t : Nat) : Int) (s : Int) (t : Int) ((k : Int) + W) - ad ((s + t : Nat) : Int) (s : Int) (t : Int) (k : Int))) 47 rfl (Nat.le_of_ble_eq_true rfl) rfl rfl (by kernel_rfl) ?_
      refine WL.pure (v := vI (mn (fun x => ad ((s + t : Nat) : Int) (s : Int) (t : Int) (x + W) - ad ((s + t : Nat) : Int) (s : Int) (t : Int) x) k)) 48 rfl (Nat.le_of_ble_eq_true rfl) rfl rfl (x_min (Z := mn (fun x => ad ((s + t : Nat) : Int) (s : Int) (t : Int) (x + W) - ad ((s + t : Nat) : Int) (s : Int) (t : Int) x) k) (t := 0) rfl rfl rfl (by rw [hlo]; subst hj; rfl)) ?_
      refine WL.pure (v := vI mo) 49 rfl (Nat.le_of_ble_eq_true rfl) rfl rfl (by kernel_rfl) ?_
      refine WL.pure (v := vI (ad ((s + t : Nat) : Int) (s : Int) (t : Int) ((k : Int) + W) - ad ((s + t : Nat) : Int) (s : Int) (t : Int) (k : Int))) 50 rfl (Nat.le_of_ble_eq_true rfl) rfl rfl (by kernel_rfl) ?_
      refine WL.pure (v := vI (mx (fun x => ad ((s + t : Nat) : Int) (s : Int) (t : Int) (x + W) - ad ((s + t : Nat) : Int) (s : Int) (t : Int) x) k)) 51 rfl (Nat.le_of_ble_eq_true rfl) rfl rfl (x_max (Z := mx (fun x => ad ((s + t : Nat) : Int) (s : Int) (t : Int) (x + W) - ad ((s + t : Nat) : Int) (s : Int) (t : Int) x) k) (t := 0) rfl rfl rfl (by rw [hmo]; subst hj; rfl)) ?_
      refine WL.pure (v := vI (mn (fun x => ad ((s + t : Nat) : Int) (s : Int) (t : Int) (x + W) - ad ((s + t : Nat) : Int) (s : Int) (t : Int) x) k)) 6 rfl (Nat.le_of_ble_eq_true rfl) rfl rfl (by kernel_rfl) ?_
      refine WL.pure (v := vI (mx (fun x => ad ((s + t : Nat) : Int) (s : Int) (t : Int) (x + W) - ad ((s + t : Nat) : Int) (s : Int) (t : Int) x) k)) 7 rfl (Nat.le_of_ble_eq_true rfl) rfl rfl (by kernel_rfl) ?_
      refine WL.nil ?_
      refine WQ.inNormal ?_
      refine WQ.then ?_
      refine hK28 _ _ _ ?_
      refine WC.sub (l' := [(1, vI 1), (2, vI W), (6, vI (mn (fun x => ad ((s + t : Nat) : Int) (s : Int) (t : Int) (x + W) - ad ((s + t : Nat) : Int) (s : Int) (t : Int) x) k)), (7, vI (mx (fun x => ad ((s + t : Nat) : Int) (s : Int) (t : Int) (x + W) - ad ((s + t : Nat) : Int) (s : Int) (t : Int) x) k)), (9, vP bw 0), (10, vI (k : Int)), (11, vI (ad ((s + t : Nat) : Int) (s : Int) (t : Int) ((k : Int) + W) - ad ((s + t : Nat) : Int) (s : Int) (t : Int) (k : Int))), (28, vI ((s + t : Nat) : Int)), (29, vI (k : Int)), (30, .bool true), (44, .bool false)]) ⟨rfl, rfl, rfl, rfl, rfl, rfl, rfl, rfl, rfl, rfl, rfl, trivial⟩ ?_
      refine WC.region ?_
      refine WL.pure (v := vI ((k + 1 : Nat) : Int)) 52 rfl (Nat.le_of_ble_eq_true rfl) rfl rfl (x_add (Z := ((k + 1 : Nat) : Int)) rfl rfl rfl (by omega) (by omega) (by omega)) ?_
      refine WL.pure (v := vI ((k + 1 : Nat) : Int)) 29 rfl (Nat.le_of_ble_eq_true rfl) rfl rfl (by kernel_rfl) ?_
      refine WL.nil ?_
      refine WQ.sub (l' := [(1, vI 1), (2, vI W), (6, vI (mn (fun x => ad ((s + t : Nat) : Int) (s : Int) (t : Int) (x + W) - ad ((s + t : Nat) : Int) (s : Int) (t : Int) x) k)), (7, vI (mx (fun x => ad ((s + t : Nat) : Int) (s : Int) (t : Int) (x + W) - ad ((s + t : Nat) : Int) (s : Int) (t : Int) x) k)), (9, vP bw 0), (28, vI ((s + t : Nat) : Int)), (29, vI ((k + 1 : Nat) : Int))]) ⟨rfl, rfl, rfl, rfl, rfl, rfl, rfl, trivial⟩ ?_
      refine WQ.then (hK23 _ _ _ (by omega) ⟨k + 1, mn (fun x => ad ((s + t : Nat) : Int) (s : Int) (t : Int) (x + W) - ad ((s + t : Nat) : Int) (s : Int) (t : Int) x) k, mx (fun x => ad ((s + t : Nat) : Int) (s : Int) (t : Int) (x + W) - ad ((s + t : Nat) : Int) (s : Int) (t : Int) x) k, rfl, rfl, by omega, .inr ⟨k, rfl, rfl, rfl⟩, hH32⟩)
  ·
    refine WL.pure (v := .bool false) 30 rfl (Nat.le_of_ble_eq_true rfl) rfl rfl (x_lss rfl rfl rfl (dF (hlt))) ?_
    refine WL.nil ?_
    refine WQ.then ?_
    refine hK26 _ _ _ ?_
    refine WC.seq fun K35 hK35 => ?_
    refine WC.no rfl ?_
    refine WC.exit ?_
    refine WQ.thenExit ?_
    refine WQ.thenExit ?_
    refine WQ.inExit ?_
    refine WQ.then ?_
    refine hK18 _ _ _ ?_
    refine WC.seq fun K36 hK36 => ?_
    refine WC.region ?_
    refine WL.pure (v := vI lo) 53 rfl (Nat.le_of_ble_eq_true rfl) rfl rfl (by kernel_rfl) ?_
    refine WL.pure (v := vI mo) 54 rfl (Nat.le_of_ble_eq_true rfl) rfl rfl (by kernel_rfl) ?_
    refine WL.pure (v := vI lo) 6 rfl (Nat.le_of_ble_eq_true rfl) rfl rfl (by kernel_rfl) ?_
    refine WL.pure (v := vI mo) 7 rfl (Nat.le_of_ble_eq_true rfl) rfl rfl (by kernel_rfl) ?_
    refine WL.pure (v := vI 0) 8 rfl (Nat.le_of_ble_eq_true rfl) rfl rfl (by kernel_rfl) ?_
    refine WL.nil ?_
    refine WQ.then ?_
    refine hK36 _ _ _ ?_
    refine WC.ret ?_
    refine WQ.ret3 6 7 8 rfl rfl rfl rfl ?_
    rcases hks with ⟨q, _, _⟩ | ⟨j, hj, rfl, rfl⟩
    · omega
    · exact ⟨j, by omega, rfl, HP.below hH25⟩
set_option maxRecDepth 20000 in
set_option maxHeartbeats 4000000 in
theorem bleast0_any (bb oo s t : Nat) (W : Int) (w : World) (hr : LR w bb oo s t) (hs : 1 ≤ s ∧ s ≤ 50) (ht : 1 ≤ t ∧ t ≤ 50) (hW0 : 0 ≤ W) (hW1 : W ≤ 10000) :
    Calls Try.prog 44 #[.slice (some ⟨bb, oo, none⟩) 2 2, vI 0, vI W] w fun e w' => ∃ j : Nat, s + t = j + 1 ∧ e = .returned (.tuple #[.int .i64 (mn (fun x => ad ((s + t : Nat) : Int) (0 : Int) (s : Int) (x + W) - ad ((s + t : Nat) : Int) (0 : Int) (s : Int) x) j), .int .i64 0]) ∧ Below w.heap.size w w' := by
  refine calls_of Try.func44 rfl (m := 21) rfl [(0, .slice (some ⟨bb, oo, none⟩) 2 2), (1, vI 0), (2, vI W)] (Fr_enter [.slice (some ⟨bb, oo, none⟩) 2 2, vI 0, vI W] 21 (Nat.le_of_ble_eq_true rfl)) ?_
  have hH1 : HP Tr w w [] := HP.refl w
  refine WC.seq fun K2 hK2 => ?_
  refine WC.region ?_
  refine WL.pure (v := vI 0) 6 rfl (Nat.le_of_ble_eq_true rfl) rfl rfl (by kernel_rfl) ?_
  refine WL.pure (v := vI 0) 7 rfl (Nat.le_of_ble_eq_true rfl) rfl rfl (by kernel_rfl) ?_
  refine WL.nil ?_
  refine WQ.then ?_
  refine hK2 _ _ _ ?_
  refine WC.seq fun K3 hK3 => ?_
  refine WC.region ?_
  refine WL.pure (v := .slice (some ⟨bb, oo, none⟩) 2 2) 12 rfl (Nat.le_of_ble_eq_true rfl) rfl rfl (by kernel_rfl) ?_
  refine WL.pure (v := vI 0) 13 rfl (Nat.le_of_ble_eq_true rfl) rfl rfl (by kernel_rfl) ?_
  refine WL.pure (v := vI W) 14 rfl (Nat.le_of_ble_eq_true rfl) rfl rfl (by kernel_rfl) ?_
  refine WL.call (f := 63) (args := #[.slice (some ⟨bb, oo, none⟩) 2 2, vI 0, vI W]) 15 rfl (Nat.le_of_ble_eq_true rfl) rfl rfl (by kernel_rfl) ?_
  refine (windows0_any _ _ s t W _ (hr.below (HP.below hH1)) hs ht hW0 hW1).mono ?_
  rintro e w4 ⟨j, hj, rfl, hb5⟩
  refine ⟨_, rfl, ?_⟩
  have hH6 : HP Tr w _ [] := HP.call hH1 hb5
  refine WL.pure (v := .tuple #[vI (mn (fun x => ad ((s + t : Nat) : Int) (0 : Int) (s : Int) (x + W) - ad ((s + t : Nat) : Int) (0 : Int) (s : Int) x) j), vI (mx (fun x => ad ((s + t : Nat) : Int) (0 : Int) (s : Int) (x + W) - ad ((s + t : Nat) : Int) (0 : Int) (s : Int) x) j), vI 0]) 11 rfl (Nat.le_of_ble_eq_true rfl) rfl rfl (by kernel_rfl) ?_
  refine WL.pure (v := vI (mn (fun x => ad ((s + t : Nat) : Int) (0 : Int) (s : Int) (x + W) - ad ((s + t : Nat) : Int) (0 : Int) (s : Int) x) j)) 16 rfl (Nat.le_of_ble_eq_true rfl) rfl rfl (by kernel_rfl) ?_
  refine WL.pure (v := vI (mx (fun x => ad ((s + t : Nat) : Int) (0 : Int) (s : Int) (x + W) - ad ((s + t : Nat) : Int) (0 : Int) (s : Int) x) j)) 17 rfl (Nat.le_of_ble_eq_true rfl) rfl rfl (by kernel_rfl) ?_
  refine WL.pure (v := vI 0) 18 rfl (Nat.le_of_ble_eq_true rfl) rfl rfl (by kernel_rfl) ?_
  refine WL.pure (v := vI (mn (fun x => ad ((s + t : Nat) : Int) (0 : Int) (s : Int) (x + W) - ad ((s + t : Nat) : Int) (0 : Int) (s : Int) x) j)) 8 rfl (Nat.le_of_ble_eq_true rfl) rfl rfl (by kernel_rfl) ?_
  refine WL.pure (v := vI (mx (fun x => ad ((s + t : Nat) : Int) (0 : Int) (s : Int) (x + W) - ad ((s + t : Nat) : Int) (0 : Int) (s : Int) x) j)) 9 rfl (Nat.le_of_ble_eq_true rfl) rfl rfl (by kernel_rfl) ?_
  refine WL.pure (v := vI 0) 10 rfl (Nat.le_of_ble_eq_true rfl) rfl rfl (by kernel_rfl) ?_
  refine WL.nil ?_
  refine WQ.then ?_
  refine hK3 _ _ _ ?_
  refine WC.sub (l' := [(0, .slice (some ⟨bb, oo, none⟩) 2 2), (1, vI 0), (2, vI W), (6, vI 0), (7, vI 0), (8, vI (mn (fun x => ad ((s + t : Nat) : Int) (0 : Int) (s : Int) (x + W) - ad ((s + t : Nat) : Int) (0 : Int) (s : Int) x) j)), (10, vI 0)]) ⟨rfl, rfl, rfl, rfl, rfl, rfl, rfl, trivial⟩ ?_
  refine WC.seq fun K7 hK7 => ?_
  refine WC.region ?_
  refine WL.pure (v := vI (mn (fun x => ad ((s + t : Nat) : Int) (0 : Int) (s : Int) (x + W) - ad ((s + t : Nat) : Int) (0 : Int) (s : Int) x) j)) 19 rfl (Nat.le_of_ble_eq_true rfl) rfl rfl (by kernel_rfl) ?_
  refine WL.pure (v := vI 0) 20 rfl (Nat.le_of_ble_eq_true rfl) rfl rfl (by kernel_rfl) ?_
  refine WL.pure (v := vI (mn (fun x => ad ((s + t : Nat) : Int) (0 : Int) (s : Int) (x + W) - ad ((s + t : Nat) : Int) (0 : Int) (s : Int) x) j)) 6 rfl (Nat.le_of_ble_eq_true rfl) rfl rfl (by kernel_rfl) ?_
  refine WL.pure (v := vI 0) 7 rfl (Nat.le_of_ble_eq_true rfl) rfl rfl (by kernel_rfl) ?_
  refine WL.nil ?_
  refine WQ.then ?_
  refine hK7 _ _ _ ?_
  refine WC.ret ?_
  refine WQ.ret2 6 7 rfl rfl rfl ?_
  exact ⟨j, hj, rfl, HP.below hH6⟩
set_option maxRecDepth 20000 in
set_option maxHeartbeats 4000000 in
theorem bleast1_any (bb oo s t : Nat) (W : Int) (w : World) (hr : LR w bb oo s t) (hs : 1 ≤ s ∧ s ≤ 50) (ht : 1 ≤ t ∧ t ≤ 50) (hW0 : 0 ≤ W) (hW1 : W ≤ 10000) :
    Calls Try.prog 44 #[.slice (some ⟨bb, oo, none⟩) 2 2, vI 1, vI W] w fun e w' => ∃ j : Nat, s + t = j + 1 ∧ e = .returned (.tuple #[.int .i64 (mn (fun x => ad ((s + t : Nat) : Int) (s : Int) (t : Int) (x + W) - ad ((s + t : Nat) : Int) (s : Int) (t : Int) x) j), .int .i64 0]) ∧ Below w.heap.size w w' := by
  refine calls_of Try.func44 rfl (m := 21) rfl [(0, .slice (some ⟨bb, oo, none⟩) 2 2), (1, vI 1), (2, vI W)] (Fr_enter [.slice (some ⟨bb, oo, none⟩) 2 2, vI 1, vI W] 21 (Nat.le_of_ble_eq_true rfl)) ?_
  have hH1 : HP Tr w w [] := HP.refl w
  refine WC.seq fun K2 hK2 => ?_
  refine WC.region ?_
  refine WL.pure (v := vI 0) 6 rfl (Nat.le_of_ble_eq_true rfl) rfl rfl (by kernel_rfl) ?_
  refine WL.pure (v := vI 0) 7 rfl (Nat.le_of_ble_eq_true rfl) rfl rfl (by kernel_rfl) ?_
  refine WL.nil ?_
  refine WQ.then ?_
  refine hK2 _ _ _ ?_
  refine WC.seq fun K3 hK3 => ?_
  refine WC.region ?_
  refine WL.pure (v := .slice (some ⟨bb, oo, none⟩) 2 2) 12 rfl (Nat.le_of_ble_eq_true rfl) rfl rfl (by kernel_rfl) ?_
  refine WL.pure (v := vI 1) 13 rfl (Nat.le_of_ble_eq_true rfl) rfl rfl (by kernel_rfl) ?_
  refine WL.pure (v := vI W) 14 rfl (Nat.le_of_ble_eq_true rfl) rfl rfl (by kernel_rfl) ?_
  refine WL.call (f := 63) (args := #[.slice (some ⟨bb, oo, none⟩) 2 2, vI 1, vI W]) 15 rfl (Nat.le_of_ble_eq_true rfl) rfl rfl (by kernel_rfl) ?_
  refine (windows1_any _ _ s t W _ (hr.below (HP.below hH1)) hs ht hW0 hW1).mono ?_
  rintro e w4 ⟨j, hj, rfl, hb5⟩
  refine ⟨_, rfl, ?_⟩
  have hH6 : HP Tr w _ [] := HP.call hH1 hb5
  refine WL.pure (v := .tuple #[vI (mn (fun x => ad ((s + t : Nat) : Int) (s : Int) (t : Int) (x + W) - ad ((s + t : Nat) : Int) (s : Int) (t : Int) x) j), vI (mx (fun x => ad ((s + t : Nat) : Int) (s : Int) (t : Int) (x + W) - ad ((s + t : Nat) : Int) (s : Int) (t : Int) x) j), vI 0]) 11 rfl (Nat.le_of_ble_eq_true rfl) rfl rfl (by kernel_rfl) ?_
  refine WL.pure (v := vI (mn (fun x => ad ((s + t : Nat) : Int) (s : Int) (t : Int) (x + W) - ad ((s + t : Nat) : Int) (s : Int) (t : Int) x) j)) 16 rfl (Nat.le_of_ble_eq_true rfl) rfl rfl (by kernel_rfl) ?_
  refine WL.pure (v := vI (mx (fun x => ad ((s + t : Nat) : Int) (s : Int) (t : Int) (x + W) - ad ((s + t : Nat) : Int) (s : Int) (t : Int) x) j)) 17 rfl (Nat.le_of_ble_eq_true rfl) rfl rfl (by kernel_rfl) ?_
  refine WL.pure (v := vI 0) 18 rfl (Nat.le_of_ble_eq_true rfl) rfl rfl (by kernel_rfl) ?_
  refine WL.pure (v := vI (mn (fun x => ad ((s + t : Nat) : Int) (s : Int) (t : Int) (x + W) - ad ((s + t : Nat) : Int) (s : Int) (t : Int) x) j)) 8 rfl (Nat.le_of_ble_eq_true rfl) rfl rfl (by kernel_rfl) ?_
  refine WL.pure (v := vI (mx (fun x => ad ((s + t : Nat) : Int) (s : Int) (t : Int) (x + W) - ad ((s + t : Nat) : Int) (s : Int) (t : Int) x) j)) 9 rfl (Nat.le_of_ble_eq_true rfl) rfl rfl (by kernel_rfl) ?_
  refine WL.pure (v := vI 0) 10 rfl (Nat.le_of_ble_eq_true rfl) rfl rfl (by kernel_rfl) ?_
  refine WL.nil ?_
  refine WQ.then ?_
  refine hK3 _ _ _ ?_
  refine WC.sub (l' := [(0, .slice (some ⟨bb, oo, none⟩) 2 2), (1, vI 1), (2, vI W), (6, vI 0), (7, vI 0), (8, vI (mn (fun x => ad ((s + t : Nat) : Int) (s : Int) (t : Int) (x + W) - ad ((s + t : Nat) : Int) (s : Int) (t : Int) x) j)), (10, vI 0)]) ⟨rfl, rfl, rfl, rfl, rfl, rfl, rfl, trivial⟩ ?_
  refine WC.seq fun K7 hK7 => ?_
  refine WC.region ?_
  refine WL.pure (v := vI (mn (fun x => ad ((s + t : Nat) : Int) (s : Int) (t : Int) (x + W) - ad ((s + t : Nat) : Int) (s : Int) (t : Int) x) j)) 19 rfl (Nat.le_of_ble_eq_true rfl) rfl rfl (by kernel_rfl) ?_
  refine WL.pure (v := vI 0) 20 rfl (Nat.le_of_ble_eq_true rfl) rfl rfl (by kernel_rfl) ?_
  refine WL.pure (v := vI (mn (fun x => ad ((s + t : Nat) : Int) (s : Int) (t : Int) (x + W) - ad ((s + t : Nat) : Int) (s : Int) (t : Int) x) j)) 6 rfl (Nat.le_of_ble_eq_true rfl) rfl rfl (by kernel_rfl) ?_
  refine WL.pure (v := vI 0) 7 rfl (Nat.le_of_ble_eq_true rfl) rfl rfl (by kernel_rfl) ?_
  refine WL.nil ?_
  refine WQ.then ?_
  refine hK7 _ _ _ ?_
  refine WC.ret ?_
  refine WQ.ret2 6 7 rfl rfl rfl ?_
  exact ⟨j, hj, rfl, HP.below hH6⟩
set_option maxRecDepth 20000 in
set_option maxHeartbeats 4000000 in
theorem bmost1_any (bb oo s t : Nat) (W : Int) (w : World) (hr : LR w bb oo s t) (hs : 1 ≤ s ∧ s ≤ 50) (ht : 1 ≤ t ∧ t ≤ 50) (hW0 : 0 ≤ W) (hW1 : W ≤ 10000) :
    Calls Try.prog 45 #[.slice (some ⟨bb, oo, none⟩) 2 2, vI 1, vI W] w fun e w' => ∃ j : Nat, s + t = j + 1 ∧ e = .returned (.tuple #[.int .i64 (mx (fun x => ad ((s + t : Nat) : Int) (s : Int) (t : Int) (x + W) - ad ((s + t : Nat) : Int) (s : Int) (t : Int) x) j), .int .i64 0]) ∧ Below w.heap.size w w' := by
  refine calls_of Try.func45 rfl (m := 21) rfl [(0, .slice (some ⟨bb, oo, none⟩) 2 2), (1, vI 1), (2, vI W)] (Fr_enter [.slice (some ⟨bb, oo, none⟩) 2 2, vI 1, vI W] 21 (Nat.le_of_ble_eq_true rfl)) ?_
  have hH1 : HP Tr w w [] := HP.refl w
  refine WC.seq fun K2 hK2 => ?_
  refine WC.region ?_
  refine WL.pure (v := vI 0) 6 rfl (Nat.le_of_ble_eq_true rfl) rfl rfl (by kernel_rfl) ?_
  refine WL.pure (v := vI 0) 7 rfl (Nat.le_of_ble_eq_true rfl) rfl rfl (by kernel_rfl) ?_
  refine WL.nil ?_
  refine WQ.then ?_
  refine hK2 _ _ _ ?_
  refine WC.seq fun K3 hK3 => ?_
  refine WC.region ?_
  refine WL.pure (v := .slice (some ⟨bb, oo, none⟩) 2 2) 12 rfl (Nat.le_of_ble_eq_true rfl) rfl rfl (by kernel_rfl) ?_
  refine WL.pure (v := vI 1) 13 rfl (Nat.le_of_ble_eq_true rfl) rfl rfl (by kernel_rfl) ?_
  refine WL.pure (v := vI W) 14 rfl (Nat.le_of_ble_eq_true rfl) rfl rfl (by kernel_rfl) ?_
  refine WL.call (f := 63) (args := #[.slice (some ⟨bb, oo, none⟩) 2 2, vI 1, vI W]) 15 rfl (Nat.le_of_ble_eq_true rfl) rfl rfl (by kernel_rfl) ?_
  refine (windows1_any _ _ s t W _ (hr.below (HP.below hH1)) hs ht hW0 hW1).mono ?_
  rintro e w4 ⟨j, hj, rfl, hb5⟩
  refine ⟨_, rfl, ?_⟩
  have hH6 : HP Tr w _ [] := HP.call hH1 hb5
  refine WL.pure (v := .tuple #[vI (mn (fun x => ad ((s + t : Nat) : Int) (s : Int) (t : Int) (x + W) - ad ((s + t : Nat) : Int) (s : Int) (t : Int) x) j), vI (mx (fun x => ad ((s + t : Nat) : Int) (s : Int) (t : Int) (x + W) - ad ((s + t : Nat) : Int) (s : Int) (t : Int) x) j), vI 0]) 11 rfl (Nat.le_of_ble_eq_true rfl) rfl rfl (by kernel_rfl) ?_
  refine WL.pure (v := vI (mn (fun x => ad ((s + t : Nat) : Int) (s : Int) (t : Int) (x + W) - ad ((s + t : Nat) : Int) (s : Int) (t : Int) x) j)) 16 rfl (Nat.le_of_ble_eq_true rfl) rfl rfl (by kernel_rfl) ?_
  refine WL.pure (v := vI (mx (fun x => ad ((s + t : Nat) : Int) (s : Int) (t : Int) (x + W) - ad ((s + t : Nat) : Int) (s : Int) (t : Int) x) j)) 17 rfl (Nat.le_of_ble_eq_true rfl) rfl rfl (by kernel_rfl) ?_
  refine WL.pure (v := vI 0) 18 rfl (Nat.le_of_ble_eq_true rfl) rfl rfl (by kernel_rfl) ?_
  refine WL.pure (v := vI (mn (fun x => ad ((s + t : Nat) : Int) (s : Int) (t : Int) (x + W) - ad ((s + t : Nat) : Int) (s : Int) (t : Int) x) j)) 8 rfl (Nat.le_of_ble_eq_true rfl) rfl rfl (by kernel_rfl) ?_
  refine WL.pure (v := vI (mx (fun x => ad ((s + t : Nat) : Int) (s : Int) (t : Int) (x + W) - ad ((s + t : Nat) : Int) (s : Int) (t : Int) x) j)) 9 rfl (Nat.le_of_ble_eq_true rfl) rfl rfl (by kernel_rfl) ?_
  refine WL.pure (v := vI 0) 10 rfl (Nat.le_of_ble_eq_true rfl) rfl rfl (by kernel_rfl) ?_
  refine WL.nil ?_
  refine WQ.then ?_
  refine hK3 _ _ _ ?_
  refine WC.sub (l' := [(0, .slice (some ⟨bb, oo, none⟩) 2 2), (1, vI 1), (2, vI W), (6, vI 0), (7, vI 0), (9, vI (mx (fun x => ad ((s + t : Nat) : Int) (s : Int) (t : Int) (x + W) - ad ((s + t : Nat) : Int) (s : Int) (t : Int) x) j)), (10, vI 0)]) ⟨rfl, rfl, rfl, rfl, rfl, rfl, rfl, trivial⟩ ?_
  refine WC.seq fun K7 hK7 => ?_
  refine WC.region ?_
  refine WL.pure (v := vI (mx (fun x => ad ((s + t : Nat) : Int) (s : Int) (t : Int) (x + W) - ad ((s + t : Nat) : Int) (s : Int) (t : Int) x) j)) 19 rfl (Nat.le_of_ble_eq_true rfl) rfl rfl (by kernel_rfl) ?_
  refine WL.pure (v := vI 0) 20 rfl (Nat.le_of_ble_eq_true rfl) rfl rfl (by kernel_rfl) ?_
  refine WL.pure (v := vI (mx (fun x => ad ((s + t : Nat) : Int) (s : Int) (t : Int) (x + W) - ad ((s + t : Nat) : Int) (s : Int) (t : Int) x) j)) 6 rfl (Nat.le_of_ble_eq_true rfl) rfl rfl (by kernel_rfl) ?_
  refine WL.pure (v := vI 0) 7 rfl (Nat.le_of_ble_eq_true rfl) rfl rfl (by kernel_rfl) ?_
  refine WL.nil ?_
  refine WQ.then ?_
  refine hK7 _ _ _ ?_
  refine WC.ret ?_
  refine WQ.ret2 6 7 rfl rfl rfl ?_
  exact ⟨j, hj, rfl, HP.below hH6⟩
set_option maxRecDepth 20000 in
set_option maxHeartbeats 4000000 in
theorem bEnd_any (bb oo s t : Nat) (m n : Int) (w : World) (hr : LR w bb oo s t) (hs : 1 ≤ s ∧ s ≤ 50) (ht : 1 ≤ t ∧ t ≤ 50) (hm0 : 0 ≤ m) (hm1 : m ≤ 10000) (hn0 : 1 ≤ n) (hn1 : n ≤ 100) :
    Calls Try.prog 46 #[.slice (some ⟨bb, oo, none⟩) 2 2, .agg #[vI 1, vI m, vI n]] w fun e w' => e = .returned (.tuple #[.int .i64 (pd ((s + t : Nat) : Int) (s : Int) (t : Int) (ad ((s + t : Nat) : Int) (s : Int) (t : Int) m + n)), .int .i64 0]) ∧ Below w.heap.size w w' := by
  refine calls_of Try.func46 rfl (m := 32) rfl [(0, .slice (some ⟨bb, oo, none⟩) 2 2), (1, .agg #[vI 1, vI m, vI n])] (Fr_enter [.slice (some ⟨bb, oo, none⟩) 2 2, .agg #[vI 1, vI m, vI n]] 32 (Nat.le_of_ble_eq_true rfl)) ?_
  have hH1 : HP Tr w w [] := HP.refl w
  refine WC.seq fun K2 hK2 => ?_
  refine WC.region ?_
  refine WL.alloc (c := #[vI 1, vI m, vI n]) (T := 49) hH1 3 rfl (by decide) rfl rfl (fun b3 => vP b3 0) (by kernel_rfl) (fun b3 w4 hw4 => ?_)
  have hH5 : HP Tr w w4 [.cel b3 #[vI 1, vI m, vI n] 49] := hw4.2
  have nb3 := hw4.1
  clear hw4
  refine WL.pure (v := vI 0) 4 rfl (Nat.le_of_ble_eq_true rfl) rfl rfl (by kernel_rfl) ?_
  refine WL.pure (v := vI 0) 5 rfl (Nat.le_of_ble_eq_true rfl) rfl rfl (by kernel_rfl) ?_
  refine WL.nil ?_
  refine WQ.then ?_
  refine hK2 _ _ _ ?_
  refine WC.seq fun K6 hK6 => ?_
  refine WC.seq fun K7 hK7 => ?_
  refine WC.region ?_
  refine WL.pure (v := .slice (some ⟨bb, oo, none⟩) 2 2) 7 rfl (Nat.le_of_ble_eq_true rfl) rfl rfl (by kernel_rfl) ?_
  refine WL.call (f := 64) (args := #[.slice (some ⟨bb, oo, none⟩) 2 2]) 8 rfl (Nat.le_of_ble_eq_true rfl) rfl rfl (by kernel_rfl) ?_
  refine (bvalid_any _ _ s t _ (hr.below (HP.below hH5)) hs ht).mono ?_
  rintro e w8 ⟨rfl, hb9⟩
  refine ⟨_, rfl, ?_⟩
  have hH10 : HP Tr w _ [.cel b3 #[vI 1, vI m, vI n] 49] := HP.call hH5 hb9
  refine WL.pure (v := .bool false) 9 rfl (Nat.le_of_ble_eq_true rfl) rfl rfl (by kernel_rfl) ?_
  refine WL.pure (v := .bool false) 10 rfl (Nat.le_of_ble_eq_true rfl) rfl rfl (by kernel_rfl) ?_
  refine WL.pure (v := .agg #[vI 1, vI m, vI n]) 11 rfl (Nat.le_of_ble_eq_true rfl) rfl rfl (x_loadS (cs := [vI 1, vI m, vI n]) rfl rfl Try.underlying49 rfl sz49 (HP.range hH10 0 rfl rfl)) ?_
  refine WL.call (f := 65) (args := #[.agg #[vI 1, vI m, vI n]]) 12 rfl (Nat.le_of_ble_eq_true rfl) rfl rfl (by kernel_rfl) ?_
  refine (isReq_any m n _ (by omega) (by omega) hn0 hn1).mono ?_
  rintro e w11 ⟨rfl, hb12⟩
  refine ⟨_, rfl, ?_⟩
  have hH13 : HP Tr w _ [.cel b3 #[vI 1, vI m, vI n] 49] := HP.call hH10 hb12
  refine WL.pure (v := .bool false) 13 rfl (Nat.le_of_ble_eq_true rfl) rfl rfl (by kernel_rfl) ?_
  refine WL.pure (v := .bool false) 14 rfl (Nat.le_of_ble_eq_true rfl) rfl rfl (by kernel_rfl) ?_
  refine WL.nil ?_
  refine WQ.then ?_
  refine hK7 _ _ _ ?_
  refine WC.sub (l' := [(0, .slice (some ⟨bb, oo, none⟩) 2 2), (1, .agg #[vI 1, vI m, vI n]), (3, vP b3 0), (4, vI 0), (5, vI 0), (14, .bool false)]) ⟨rfl, rfl, rfl, rfl, rfl, rfl, trivial⟩ ?_
  refine WC.no rfl ?_
  refine WC.skip ?_
  refine WQ.then ?_
  refine hK6 _ _ _ ?_
  refine WC.seq fun K14 hK14 => ?_
  refine WC.region ?_
  refine WL.pure (v := .slice (some ⟨bb, oo, none⟩) 2 2) 15 rfl (Nat.le_of_ble_eq_true rfl) rfl rfl (by kernel_rfl) ?_
  refine WL.call (f := 66) (args := #[.slice (some ⟨bb, oo, none⟩) 2 2]) 16 rfl (Nat.le_of_ble_eq_true rfl) rfl rfl (by kernel_rfl) ?_
  refine (turning_any _ _ s t _ (hr.below (HP.below hH13)) hs ht).mono ?_
  rintro e w15 ⟨po, co, g0, c0, g1, c1, xo, rfl, hb16⟩
  refine ⟨_, rfl, ?_⟩
  have hH17 : HP Tr w _ [.cel b3 #[vI 1, vI m, vI n] 49, .own (.slice po (s + t) co) (s + t) xo 3 1, .own (vS g0 s c0) s (rng 0 s) 3 1, .own (vS g1 t c1) t (rng s t) 3 1] := HP.trans hH13 hb16
  refine WL.alloc (c := #[.slice none 0 0, .slice none 0 0, .slice none 0 0, .slice none 0 0, .slice none 0 0]) (T := 71) hH17 6 rfl (by decide) rfl rfl (fun b18 => vP b18 0) (by kernel_rfl) (fun b18 w19 hw19 => ?_)
  have hH20 : HP Tr w w19 [.cel b3 #[vI 1, vI m, vI n] 49, .own (.slice po (s + t) co) (s + t) xo 3 1, .own (vS g0 s c0) s (rng 0 s) 3 1, .own (vS g1 t c1) t (rng s t) 3 1, .cel b18 #[.slice none 0 0, .slice none 0 0, .slice none 0 0, .slice none 0 0, .slice none 0 0] 71] := hw19.2
  have nb18 := hw19.1
  clear hw19
  refine WL.storeS (H2 := [.cel b3 #[vI 1, vI m, vI n] 49, .own (.slice po (s + t) co) (s + t) xo 3 1, .own (vS g0 s c0) s (rng 0 s) 3 1, .own (vS g1 t c1) t (rng s t) 3 1, .cel b18 #[.slice po (s + t) co, vS g0 s c0, vS g1 t c1, .slice none 0 0, .slice none 0 0] 71]) 4 hH20 rfl rfl rfl rfl rfl rfl sz71 rfl (Nat.le_of_ble_eq_true rfl) rfl rfl ?_
  intro w21 hH22
  refine WL.nil ?_
  refine WQ.then ?_
  refine hK14 _ _ _ ?_
  refine WC.seq fun K23 hK23 => ?_
  refine WC.seq fun K24 hK24 => ?_
  refine WC.region ?_
  refine WL.pure (v := vP b3 0) 17 rfl (Nat.le_of_ble_eq_true rfl) rfl rfl (by kernel_rfl) ?_
  refine WL.pure (v := vI 1) 18 rfl (Nat.le_of_ble_eq_true rfl) rfl rfl (x_load rfl rfl Try.underlying3 rfl (HP.cell hH22 0 rfl rfl)) ?_
  refine WL.pure (v := vP b18 1) 19 rfl (Nat.le_of_ble_eq_true rfl) rfl rfl (by kernel_rfl) ?_
  refine WL.pure (v := vP b18 2) 20 rfl (Nat.le_of_ble_eq_true rfl) rfl rfl (x_idxArr (1) (2) rfl rfl rfl Try.underlying69 sz68 (by omega) (by omega) (by omega)) ?_
  refine WL.pure (v := vS g1 t c1) 21 rfl (Nat.le_of_ble_eq_true rfl) rfl rfl (x_load rfl rfl Try.underlying68 rfl (HP.cell hH22 4 rfl rfl)) ?_
  refine WL.pure (v := vI (t : Int)) 22 rfl (Nat.le_of_ble_eq_true rfl) rfl rfl (by kernel_rfl) ?_
  refine WL.pure (v := .bool false) 23 rfl (Nat.le_of_ble_eq_true rfl) rfl rfl (x_eql rfl rfl rfl (dF (by omega))) ?_
  refine WL.nil ?_
  refine WQ.then ?_
  refine hK24 _ _ _ ?_
  refine WC.sub (l' := [(0, .slice (some ⟨bb, oo, none⟩) 2 2), (1, .agg #[vI 1, vI m, vI n]), (3, vP b3 0), (4, vI 0), (5, vI 0), (6, vP b18 0), (14, .bool false), (23, .bool false)]) ⟨rfl, rfl, rfl, rfl, rfl, rfl, rfl, rfl, trivial⟩ ?_
  refine WC.no rfl ?_
  refine WC.skip ?_
  refine WQ.then ?_
  refine hK23 _ _ _ ?_
  refine WC.seq fun K25 hK25 => ?_
  refine WC.region ?_
  refine WL.pure (v := .agg #[.slice po (s + t) co, vS g0 s c0, vS g1 t c1, .slice none 0 0, .slice none 0 0]) 24 rfl (Nat.le_of_ble_eq_true rfl) rfl rfl (x_loadS (cs := [.slice po (s + t) co, vS g0 s c0, vS g1 t c1, .slice none 0 0, .slice none 0 0]) rfl rfl Try.underlying71 rfl sz71 (HP.range hH22 4 rfl rfl)) ?_
  refine WL.pure (v := vP b3 0) 25 rfl (Nat.le_of_ble_eq_true rfl) rfl rfl (by kernel_rfl) ?_
  refine WL.pure (v := vI 1) 26 rfl (Nat.le_of_ble_eq_true rfl) rfl rfl (x_load rfl rfl Try.underlying3 rfl (HP.cell hH22 0 rfl rfl)) ?_
  refine WL.pure (v := vP b3 1) 27 rfl (Nat.le_of_ble_eq_true rfl) rfl rfl (by kernel_rfl) ?_
  refine WL.pure (v := vI m) 28 rfl (Nat.le_of_ble_eq_true rfl) rfl rfl (x_load rfl rfl Try.underlying3 rfl (HP.cell hH22 0 rfl rfl)) ?_
  refine WL.pure (v := vP b3 2) 29 rfl (Nat.le_of_ble_eq_true rfl) rfl rfl (by kernel_rfl) ?_
  refine WL.pure (v := vI n) 30 rfl (Nat.le_of_ble_eq_true rfl) rfl rfl (x_load rfl rfl Try.underlying3 rfl (HP.cell hH22 0 rfl rfl)) ?_
  refine WL.call (f := 67) (args := #[.agg #[.slice po (s + t) co, vS g0 s c0, vS g1 t c1, .slice none 0 0, .slice none 0 0], vI 1, vI m, vI n]) 31 rfl (Nat.le_of_ble_eq_true rfl) rfl rfl (by kernel_rfl) ?_
  refine (end_any po co g0 c0 g1 c1 s t m n _ (RR.own hH22 2 rfl) (RR.own hH22 3 rfl) hs ht hm0 (by omega) hn0 hn1).mono ?_
  rintro e w26 ⟨rfl, hb27⟩
  refine ⟨_, rfl, ?_⟩
  have hH28 : HP Tr w _ [.cel b3 #[vI 1, vI m, vI n] 49, .own (.slice po (s + t) co) (s + t) xo 3 1, .own (vS g0 s c0) s (rng 0 s) 3 1, .own (vS g1 t c1) t (rng s t) 3 1, .cel b18 #[.slice po (s + t) co, vS g0 s c0, vS g1 t c1, .slice none 0 0, .slice none 0 0] 71] := HP.call hH22 hb27
  refine WL.pure (v := vI (pd ((s + t : Nat) : Int) (s : Int) (t : Int) (ad ((s + t : Nat) : Int) (s : Int) (t : Int) m + n))) 4 rfl (Nat.le_of_ble_eq_true rfl) rfl rfl (by kernel_rfl) ?_
  refine WL.pure (v := vI 0) 5 rfl (Nat.le_of_ble_eq_true rfl) rfl rfl (by kernel_rfl) ?_
  refine WL.nil ?_
  refine WQ.then ?_
  refine hK25 _ _ _ ?_
  refine WC.sub (l' := [(0, .slice (some ⟨bb, oo, none⟩) 2 2), (1, .agg #[vI 1, vI m, vI n]), (3, vP b3 0), (4, vI (pd ((s + t : Nat) : Int) (s : Int) (t : Int) (ad ((s + t : Nat) : Int) (s : Int) (t : Int) m + n))), (5, vI 0), (6, vP b18 0), (14, .bool false), (23, .bool false)]) ⟨rfl, rfl, rfl, rfl, rfl, rfl, rfl, rfl, trivial⟩ ?_
  refine WC.ret ?_
  refine WQ.ret2 4 5 rfl rfl rfl ?_
  exact ⟨rfl, HP.below hH28⟩
set_option maxRecDepth 20000 in
set_option maxHeartbeats 4000000 in
theorem far_any (bb oo s t : Nat) (n : Int) (w : World) (hr : LR w bb oo s t) (hs : 1 ≤ s ∧ s ≤ 50) (ht : 1 ≤ t ∧ t ≤ 50) (hn0 : 1 ≤ n) (hn1 : n ≤ 100) :
    Calls Try.prog 68 #[.slice (some ⟨bb, oo, none⟩) 2 2, vI 1, vI n, .func (.func 69) #[] #[]] w fun e w' => ∃ (j : Nat) (mm : Int), s + t = j + 1 ∧ e = .returned (.tuple #[.int .i64 (mx (wt ((s + t : Nat) : Int) (s : Int) (t : Int) n) j), .int .i64 mm, .int .i64 0]) ∧ Below w.heap.size w w' := by
  refine calls_of Try.func68 rfl (m := 57) rfl [(0, .slice (some ⟨bb, oo, none⟩) 2 2), (1, vI 1), (2, vI n), (3, .func (.func 69) #[] #[])] (Fr_enter [.slice (some ⟨bb, oo, none⟩) 2 2, vI 1, vI n, .func (.func 69) #[] #[]] 57 (Nat.le_of_ble_eq_true rfl)) ?_
  have hH1 : HP Tr w w [] := HP.refl w
  refine WC.seq fun K2 hK2 => ?_
  refine WC.region ?_
  refine WL.pure (v := vI 0) 8 rfl (Nat.le_of_ble_eq_true rfl) rfl rfl (by kernel_rfl) ?_
  refine WL.pure (v := vI 0) 9 rfl (Nat.le_of_ble_eq_true rfl) rfl rfl (by kernel_rfl) ?_
  refine WL.pure (v := vI 0) 10 rfl (Nat.le_of_ble_eq_true rfl) rfl rfl (by kernel_rfl) ?_
  refine WL.nil ?_
  refine WQ.then ?_
  refine hK2 _ _ _ ?_
  refine WC.seq fun K3 hK3 => ?_
  refine WC.seq fun K4 hK4 => ?_
  refine WC.region ?_
  refine WL.pure (v := .slice (some ⟨bb, oo, none⟩) 2 2) 14 rfl (Nat.le_of_ble_eq_true rfl) rfl rfl (by kernel_rfl) ?_
  refine WL.call (f := 64) (args := #[.slice (some ⟨bb, oo, none⟩) 2 2]) 15 rfl (Nat.le_of_ble_eq_true rfl) rfl rfl (by kernel_rfl) ?_
  refine (bvalid_any _ _ s t _ (hr.below (HP.below hH1)) hs ht).mono ?_
  rintro e w5 ⟨rfl, hb6⟩
  refine ⟨_, rfl, ?_⟩
  have hH7 : HP Tr w _ [] := HP.call hH1 hb6
  refine WL.pure (v := .bool false) 16 rfl (Nat.le_of_ble_eq_true rfl) rfl rfl (by kernel_rfl) ?_
  refine WL.pure (v := .bool false) 17 rfl (Nat.le_of_ble_eq_true rfl) rfl rfl (by kernel_rfl) ?_
  refine WL.pure (v := vI 1) 18 rfl (Nat.le_of_ble_eq_true rfl) rfl rfl (by kernel_rfl) ?_
  refine WL.pure (v := vI n) 19 rfl (Nat.le_of_ble_eq_true rfl) rfl rfl (by kernel_rfl) ?_
  refine WL.pure (v := .agg #[vI 1, vI 0, vI n]) 20 rfl (Nat.le_of_ble_eq_true rfl) rfl rfl (by kernel_rfl) ?_
  refine WL.call (f := 65) (args := #[.agg #[vI 1, vI 0, vI n]]) 21 rfl (Nat.le_of_ble_eq_true rfl) rfl rfl (by kernel_rfl) ?_
  refine (isReq_any 0 n _ (by omega) (by omega) hn0 hn1).mono ?_
  rintro e w8 ⟨rfl, hb9⟩
  refine ⟨_, rfl, ?_⟩
  have hH10 : HP Tr w _ [] := HP.call hH7 hb9
  refine WL.pure (v := .bool false) 22 rfl (Nat.le_of_ble_eq_true rfl) rfl rfl (by kernel_rfl) ?_
  refine WL.pure (v := .bool false) 23 rfl (Nat.le_of_ble_eq_true rfl) rfl rfl (by kernel_rfl) ?_
  refine WL.nil ?_
  refine WQ.then ?_
  refine hK4 _ _ _ ?_
  refine WC.sub (l' := [(0, .slice (some ⟨bb, oo, none⟩) 2 2), (1, vI 1), (2, vI n), (3, .func (.func 69) #[] #[]), (8, vI 0), (9, vI 0), (10, vI 0), (23, .bool false)]) ⟨rfl, rfl, rfl, rfl, rfl, rfl, rfl, rfl, trivial⟩ ?_
  refine WC.no rfl ?_
  refine WC.skip ?_
  refine WQ.then ?_
  refine hK3 _ _ _ ?_
  refine WC.seq fun K11 hK11 => ?_
  refine WC.region ?_
  refine WL.pure (v := .slice (some ⟨bb, oo, none⟩) 2 2) 24 rfl (Nat.le_of_ble_eq_true rfl) rfl rfl (by kernel_rfl) ?_
  refine WL.call (f := 66) (args := #[.slice (some ⟨bb, oo, none⟩) 2 2]) 25 rfl (Nat.le_of_ble_eq_true rfl) rfl rfl (by kernel_rfl) ?_
  refine (turning_any _ _ s t _ (hr.below (HP.below hH10)) hs ht).mono ?_
  rintro e w12 ⟨po, co, g0, c0, g1, c1, xo, rfl, hb13⟩
  refine ⟨_, rfl, ?_⟩
  have hH14 : HP Tr w _ [.own (.slice po (s + t) co) (s + t) xo 3 1, .own (vS g0 s c0) s (rng 0 s) 3 1, .own (vS g1 t c1) t (rng s t) 3 1] := HP.trans hH10 hb13
  refine WL.alloc (c := #[.slice none 0 0, .slice none 0 0, .slice none 0 0, .slice none 0 0, .slice none 0 0]) (T := 71) hH14 11 rfl (by decide) rfl rfl (fun bw => vP bw 0) (by kernel_rfl) (fun bw w15 hw15 => ?_)
  have hH16 : HP Tr w w15 [.own (.slice po (s + t) co) (s + t) xo 3 1, .own (vS g0 s c0) s (rng 0 s) 3 1, .own (vS g1 t c1) t (rng s t) 3 1, .cel bw #[.slice none 0 0, .slice none 0 0, .slice none 0 0, .slice none 0 0, .slice none 0 0] 71] := hw15.2
  have nbw := hw15.1
  clear hw15
  refine WL.storeS (H2 := [.own (.slice po (s + t) co) (s + t) xo 3 1, .own (vS g0 s c0) s (rng 0 s) 3 1, .own (vS g1 t c1) t (rng s t) 3 1, .cel bw #[.slice po (s + t) co, vS g0 s c0, vS g1 t c1, .slice none 0 0, .slice none 0 0] 71]) 3 hH16 rfl rfl rfl rfl rfl rfl sz71 rfl (Nat.le_of_ble_eq_true rfl) rfl rfl ?_
  intro w17 hH18
  refine WL.nil ?_
  refine WQ.then ?_
  refine hK11 _ _ _ ?_
  refine WC.seq fun K19 hK19 => ?_
  refine WC.seq fun K20 hK20 => ?_
  refine WC.region ?_
  refine WL.pure (v := vI 1) 26 rfl (Nat.le_of_ble_eq_true rfl) rfl rfl (by kernel_rfl) ?_
  refine WL.pure (v := vP bw 1) 27 rfl (Nat.le_of_ble_eq_true rfl) rfl rfl (by kernel_rfl) ?_
  refine WL.pure (v := vP bw 2) 28 rfl (Nat.le_of_ble_eq_true rfl) rfl rfl (x_idxArr (1) (2) rfl rfl rfl Try.underlying69 sz68 (by omega) (by omega) (by omega)) ?_
  refine WL.pure (v := vS g1 t c1) 29 rfl (Nat.le_of_ble_eq_true rfl) rfl rfl (x_load rfl rfl Try.underlying68 rfl (HP.cell hH18 3 rfl rfl)) ?_
  refine WL.pure (v := vI (t : Int)) 30 rfl (Nat.le_of_ble_eq_true rfl) rfl rfl (by kernel_rfl) ?_
  refine WL.pure (v := .bool false) 31 rfl (Nat.le_of_ble_eq_true rfl) rfl rfl (x_eql rfl rfl rfl (dF (by omega))) ?_
  refine WL.nil ?_
  refine WQ.then ?_
  refine hK20 _ _ _ ?_
  refine WC.sub (l' := [(0, .slice (some ⟨bb, oo, none⟩) 2 2), (1, vI 1), (2, vI n), (3, .func (.func 69) #[] #[]), (8, vI 0), (9, vI 0), (10, vI 0), (11, vP bw 0), (23, .bool false), (31, .bool false)]) ⟨rfl, rfl, rfl, rfl, rfl, rfl, rfl, rfl, rfl, rfl, trivial⟩ ?_
  refine WC.no rfl ?_
  refine WC.skip ?_
  refine WQ.then ?_
  refine hK19 _ _ _ ?_
  refine WC.seq fun K21 hK21 => ?_
  refine WC.seq fun K22 hK22 => ?_
  refine WC.region ?_
  refine WL.pure (v := .agg #[.slice po (s + t) co, vS g0 s c0, vS g1 t c1, .slice none 0 0, .slice none 0 0]) 32 rfl (Nat.le_of_ble_eq_true rfl) rfl rfl (x_loadS (cs := [.slice po (s + t) co, vS g0 s c0, vS g1 t c1, .slice none 0 0, .slice none 0 0]) rfl rfl Try.underlying71 rfl sz71 (HP.range hH18 3 rfl rfl)) ?_
  refine WL.call (f := 81) (args := #[.agg #[.slice po (s + t) co, vS g0 s c0, vS g1 t c1, .slice none 0 0, .slice none 0 0]]) 33 rfl (Nat.le_of_ble_eq_true rfl) rfl rfl (by kernel_rfl) ?_
  refine (period_any po co g0 c0 g1 c1 s t _).mono ?_
  rintro e w23 ⟨rfl, hb24⟩
  refine ⟨_, rfl, ?_⟩
  have hH25 : HP Tr w _ [.own (.slice po (s + t) co) (s + t) xo 3 1, .own (vS g0 s c0) s (rng 0 s) 3 1, .own (vS g1 t c1) t (rng s t) 3 1, .cel bw #[.slice po (s + t) co, vS g0 s c0, vS g1 t c1, .slice none 0 0, .slice none 0 0] 71] := HP.call hH18 hb24
  refine WL.pure (v := vI 0) 34 rfl (Nat.le_of_ble_eq_true rfl) rfl rfl (by kernel_rfl) ?_
  refine WL.nil ?_
  refine WQ.then ?_
  refine hK22 _ _ _ ?_
  refine WC.block ?_
  refine WC.loop (fun kk0 ll0 ww0 => ∃ (k : Nat) (dl : Int) (mm : Int), ll0 = [(1, vI 1), (2, vI n), (3, .func (.func 69) #[] #[]), (8, vI dl), (9, vI mm), (11, vP bw 0), (33, vI ((s + t : Nat) : Int)), (34, vI (k : Int))] ∧ kk0 = s + t - k ∧ (k ≤ s + t) ∧ ((k = 0 ∧ dl = 0) ∨ (∃ j, k = j + 1 ∧ dl = mx (wt ((s + t : Nat) : Int) (s : Int) (t : Int) n) j)) ∧ HP Tr w ww0 [.own (.slice po (s + t) co) (s + t) xo 3 1, .own (vS g0 s c0) s (rng 0 s) 3 1, .own (vS g1 t c1) t (rng s t) 3 1, .cel bw #[.slice po (s + t) co, vS g0 s c0, vS g1 t c1, .slice none 0 0, .slice none 0 0] 71]) (s + t) [(1, vI 1), (2, vI n), (3, .func (.func 69) #[] #[]), (8, vI 0), (9, vI 0), (11, vP bw 0), (33, vI ((s + t : Nat) : Int)), (34, vI 0)] ⟨rfl, rfl, rfl, rfl, rfl, rfl, rfl, rfl, trivial⟩ ⟨0, 0, 0, rfl, rfl, Nat.zero_le _, .inl ⟨rfl, rfl⟩, hH25⟩ ?_
  rintro kk l w27 ⟨k, dl, mm, rfl, hkk, hk, hks, hH28⟩ K26 hK26
  refine WC.seq fun K29 hK29 => ?_
  refine WC.region ?_
  by_cases hlt : (k : Int) < ((s + t : Nat) : Int)
  ·
    refine WL.pure (v := .bool true) 35 rfl (Nat.le_of_ble_eq_true rfl) rfl rfl (x_lss rfl rfl rfl (dT (hlt))) ?_
    refine WL.nil ?_
    refine WQ.then ?_
    refine hK29 _ _ _ ?_
    refine WC.seq fun K30 hK30 => ?_
    refine WC.yes rfl ?_
    refine WC.skip ?_
    refine WQ.then ?_
    refine hK30 _ _ _ ?_
    refine WC.seq fun K31 hK31 => ?_
    refine WC.block ?_
    refine WC.seq fun K32 hK32 => ?_
    refine WC.region ?_
    refine WL.pure (v := vI (k : Int)) 36 rfl (Nat.le_of_ble_eq_true rfl) rfl rfl (by kernel_rfl) ?_
    refine WL.pure (v := vI (k : Int)) 12 rfl (Nat.le_of_ble_eq_true rfl) rfl rfl (by kernel_rfl) ?_
    refine WL.nil ?_
    refine WQ.then ?_
    refine hK32 _ _ _ ?_
    refine WC.seq fun K33 hK33 => ?_
    refine WC.region ?_
    refine WL.pure (v := .agg #[.slice po (s + t) co, vS g0 s c0, vS g1 t c1, .slice none 0 0, .slice none 0 0]) 37 rfl (Nat.le_of_ble_eq_true rfl) rfl rfl (x_loadS (cs := [.slice po (s + t) co, vS g0 s c0, vS g1 t c1, .slice none 0 0, .slice none 0 0]) rfl rfl Try.underlying71 rfl sz71 (HP.range hH28 3 rfl rfl)) ?_
    refine WL.pure (v := vI 1) 38 rfl (Nat.le_of_ble_eq_true rfl) rfl rfl (by kernel_rfl) ?_
    refine WL.pure (v := vI (k : Int)) 39 rfl (Nat.le_of_ble_eq_true rfl) rfl rfl (by kernel_rfl) ?_
    refine WL.pure (v := vI n) 40 rfl (Nat.le_of_ble_eq_true rfl) rfl rfl (by kernel_rfl) ?_
    refine WL.call (f := 67) (args := #[.agg #[.slice po (s + t) co, vS g0 s c0, vS g1 t c1, .slice none 0 0, .slice none 0 0], vI 1, vI (k : Int), vI n]) 41 rfl (Nat.le_of_ble_eq_true rfl) rfl rfl (by kernel_rfl) ?_
    refine (end_any po co g0 c0 g1 c1 s t (k : Int) n _ (RR.own hH28 1 rfl) (RR.own hH28 2 rfl) hs ht (by omega) (by omega) hn0 hn1).mono ?_
    rintro e w34 ⟨rfl, hb35⟩
    refine ⟨_, rfl, ?_⟩
    have hH36 : HP Tr w _ [.own (.slice po (s + t) co) (s + t) xo 3 1, .own (vS g0 s c0) s (rng 0 s) 3 1, .own (vS g1 t c1) t (rng s t) 3 1, .cel bw #[.slice po (s + t) co, vS g0 s c0, vS g1 t c1, .slice none 0 0, .slice none 0 0] 71] := HP.call hH28 hb35
    have hwt : wt ((s + t : Nat) : Int) (s : Int) (t : Int) n (k : Int) = pd ((s + t : Nat) : Int) (s : Int) (t : Int) (ad ((s + t : Nat) : Int) (s : Int) (t : Int) (k : Int) + n) - (k : Int) := by unfold wt; rw [if_neg (by omega)]
    have hpb := pdB (s := s) (t := t) (k := k) (n := n) hs ht (by omega) hn0 hn1
    refine WL.pure (v := vI (k : Int)) 42 rfl (Nat.le_of_ble_eq_true rfl) rfl rfl (by kernel_rfl) ?_
    refine WL.pure (v := vI (pd ((s + t : Nat) : Int) (s : Int) (t : Int) (ad ((s + t : Nat) : Int) (s : Int) (t : Int) (k : Int) + n) - (k : Int))) 43 rfl (Nat.le_of_ble_eq_true rfl) rfl rfl (x_sub (Z := pd ((s + t : Nat) : Int) (s : Int) (t : Int) (ad ((s + t : Nat) : Int) (s : Int) (t : Int) (k : Int) + n) - (k : Int)) rfl rfl rfl (by omega) (by omega) (by omega)) ?_
    refine WL.pure (v := vI (pd ((s + t : Nat) : Int) (s : Int) (t : Int) (ad ((s + t : Nat) : Int) (s : Int) (t : Int) (k : Int) + n) - (k : Int))) 13 rfl (Nat.le_of_ble_eq_true rfl) rfl rfl (by kernel_rfl) ?_
    refine WL.nil ?_
    refine WQ.then ?_
    refine hK33 _ _ _ ?_
    refine WC.sub (l' := [(1, vI 1), (2, vI n), (3, .func (.func 69) #[] #[]), (8, vI dl), (9, vI mm), (11, vP bw 0), (12, vI (k : Int)), (13, vI (pd ((s + t : Nat) : Int) (s : Int) (t : Int) (ad ((s + t : Nat) : Int) (s : Int) (t : Int) (k : Int) + n) - (k : Int))), (33, vI ((s + t : Nat) : Int)), (34, vI (k : Int)), (35, .bool true)]) ⟨rfl, rfl, rfl, rfl, rfl, rfl, rfl, rfl, rfl, rfl, rfl, trivial⟩ ?_
    refine WC.seq fun K37 hK37 => ?_
    refine WC.region ?_
    refine WL.pure (v := vI (k : Int)) 44 rfl (Nat.le_of_ble_eq_true rfl) rfl rfl (by kernel_rfl) ?_
    by_cases hz : (k : Int) = 0
    ·
      have hk0 : k = 0 := by omega
      refine WL.pure (v := .bool true) 45 rfl (Nat.le_of_ble_eq_true rfl) rfl rfl (x_eql rfl rfl rfl (dT (hz))) ?_
      refine WL.pure (v := .bool true) 46 rfl (Nat.le_of_ble_eq_true rfl) rfl rfl (by kernel_rfl) ?_
      refine WL.pass 47 rfl (Nat.le_of_ble_eq_true rfl) rfl ?_
      refine WL.pass 48 rfl (Nat.le_of_ble_eq_true rfl) rfl ?_
      refine WL.pass 49 rfl (Nat.le_of_ble_eq_true rfl) rfl ?_
      refine WL.pass 50 rfl (Nat.le_of_ble_eq_true rfl) rfl ?_
      refine WL.pure (v := .bool true) 51 rfl (Nat.le_of_ble_eq_true rfl) rfl rfl (by kernel_rfl) ?_
      refine WL.nil ?_
      refine WQ.then ?_
      refine hK37 _ _ _ ?_
      refine WC.sub (l' := [(1, vI 1), (2, vI n), (3, .func (.func 69) #[] #[]), (8, vI dl), (9, vI mm), (11, vP bw 0), (12, vI (k : Int)), (13, vI (pd ((s + t : Nat) : Int) (s : Int) (t : Int) (ad ((s + t : Nat) : Int) (s : Int) (t : Int) (k : Int) + n) - (k : Int))), (33, vI ((s + t : Nat) : Int)), (34, vI (k : Int)), (35, .bool true), (51, .bool true)]) ⟨rfl, rfl, rfl, rfl, rfl, rfl, rfl, rfl, rfl, rfl, rfl, rfl, trivial⟩ ?_
      refine WC.yes rfl ?_
      refine WC.region ?_
      refine WL.pure (v := vI (pd ((s + t : Nat) : Int) (s : Int) (t : Int) (ad ((s + t : Nat) : Int) (s : Int) (t : Int) (k : Int) + n) - (k : Int))) 52 rfl (Nat.le_of_ble_eq_true rfl) rfl rfl (by kernel_rfl) ?_
      refine WL.pure (v := vI (k : Int)) 53 rfl (Nat.le_of_ble_eq_true rfl) rfl rfl (by kernel_rfl) ?_
      refine WL.pure (v := vI (pd ((s + t : Nat) : Int) (s : Int) (t : Int) (ad ((s + t : Nat) : Int) (s : Int) (t : Int) (k : Int) + n) - (k : Int))) 8 rfl (Nat.le_of_ble_eq_true rfl) rfl rfl (by kernel_rfl) ?_
      refine WL.pure (v := vI (k : Int)) 9 rfl (Nat.le_of_ble_eq_true rfl) rfl rfl (by kernel_rfl) ?_
      refine WL.nil ?_
      refine WQ.inNormal ?_
      refine WQ.then ?_
      refine hK31 _ _ _ ?_
      refine WC.region ?_
      refine WL.pure (v := vI ((k + 1 : Nat) : Int)) 54 rfl (Nat.le_of_ble_eq_true rfl) rfl rfl (x_add (Z := ((k + 1 : Nat) : Int)) rfl rfl rfl (by omega) (by omega) (by omega)) ?_
      refine WL.pure (v := vI ((k + 1 : Nat) : Int)) 34 rfl (Nat.le_of_ble_eq_true rfl) rfl rfl (by kernel_rfl) ?_
      refine WL.nil ?_
      refine WQ.sub (l' := [(1, vI 1), (2, vI n), (3, .func (.func 69) #[] #[]), (8, vI (pd ((s + t : Nat) : Int) (s : Int) (t : Int) (ad ((s + t : Nat) : Int) (s : Int) (t : Int) (k : Int) + n) - (k : Int))), (9, vI (k : Int)), (11, vP bw 0), (33, vI ((s + t : Nat) : Int)), (34, vI ((k + 1 : Nat) : Int))]) ⟨rfl, rfl, rfl, rfl, rfl, rfl, rfl, rfl, trivial⟩ ?_
      refine WQ.then (hK26 _ _ _ (by omega) ⟨k + 1, pd ((s + t : Nat) : Int) (s : Int) (t : Int) (ad ((s + t : Nat) : Int) (s : Int) (t : Int) (k : Int) + n) - (k : Int), (k : Int), rfl, rfl, by omega, .inr ⟨k, rfl, by rw [← hwt, hk0]; rfl⟩, hH36⟩)
    ·
      obtain ⟨j, hj, hdl⟩ : ∃ j, k = j + 1 ∧ dl = mx (wt ((s + t : Nat) : Int) (s : Int) (t : Int) n) j := by
        rcases hks with ⟨q, _⟩ | q
        · omega
        · exact q
      refine WL.pure (v := .bool false) 45 rfl (Nat.le_of_ble_eq_true rfl) rfl rfl (x_eql rfl rfl rfl (dF (hz))) ?_
      refine WL.pure (v := .bool false) 46 rfl (Nat.le_of_ble_eq_true rfl) rfl rfl (by kernel_rfl) ?_
      refine WL.pure (v := .func (.func 69) #[] #[]) 47 rfl (Nat.le_of_ble_eq_true rfl) rfl rfl (by kernel_rfl) ?_
      refine WL.pure (v := vI (pd ((s + t : Nat) : Int) (s : Int) (t : Int) (ad ((s + t : Nat) : Int) (s : Int) (t : Int) (k : Int) + n) - (k : Int))) 48 rfl (Nat.le_of_ble_eq_true rfl) rfl rfl (by kernel_rfl) ?_
      refine WL.pure (v := vI dl) 49 rfl (Nat.le_of_ble_eq_true rfl) rfl rfl (by kernel_rfl) ?_
      refine WL.call (f := 69) (args := #[vI (pd ((s + t : Nat) : Int) (s : Int) (t : Int) (ad ((s + t : Nat) : Int) (s : Int) (t : Int) (k : Int) + n) - (k : Int)), vI dl]) 50 rfl (Nat.le_of_ble_eq_true rfl) rfl rfl (by kernel_rfl) ?_
      refine (more69_any _ _ _).mono ?_
      rintro e w38 ⟨rfl, rfl⟩
      refine ⟨_, rfl, ?_⟩
      refine WL.pure (v := .bool (decide (dl < pd ((s + t : Nat) : Int) (s : Int) (t : Int) (ad ((s + t : Nat) : Int) (s : Int) (t : Int) (k : Int) + n) - (k : Int)))) 51 rfl (Nat.le_of_ble_eq_true rfl) rfl rfl (by kernel_rfl) ?_
      refine WL.nil ?_
      refine WQ.then ?_
      refine hK37 _ _ _ ?_
      refine WC.sub (l' := [(1, vI 1), (2, vI n), (3, .func (.func 69) #[] #[]), (8, vI dl), (9, vI mm), (11, vP bw 0), (12, vI (k : Int)), (13, vI (pd ((s + t : Nat) : Int) (s : Int) (t : Int) (ad ((s + t : Nat) : Int) (s : Int) (t : Int) (k : Int) + n) - (k : Int))), (33, vI ((s + t : Nat) : Int)), (34, vI (k : Int)), (35, .bool true), (51, .bool (decide (dl < pd ((s + t : Nat) : Int) (s : Int) (t : Int) (ad ((s + t : Nat) : Int) (s : Int) (t : Int) (k : Int) + n) - (k : Int))))]) ⟨rfl, rfl, rfl, rfl, rfl, rfl, rfl, rfl, rfl, rfl, rfl, rfl, trivial⟩ ?_
      rcases Bool.eq_false_or_eq_true (decide (dl < pd ((s + t : Nat) : Int) (s : Int) (t : Int) (ad ((s + t : Nat) : Int) (s : Int) (t : Int) (k : Int) + n) - (k : Int))) with hB | hB
      ·
        refine WC.yes (congrArg (fun b => some (Value.bool b)) hB) ?_
        refine WC.region ?_
        refine WL.pure (v := vI (pd ((s + t : Nat) : Int) (s : Int) (t : Int) (ad ((s + t : Nat) : Int) (s : Int) (t : Int) (k : Int) + n) - (k : Int))) 52 rfl (Nat.le_of_ble_eq_true rfl) rfl rfl (by kernel_rfl) ?_
        refine WL.pure (v := vI (k : Int)) 53 rfl (Nat.le_of_ble_eq_true rfl) rfl rfl (by kernel_rfl) ?_
        refine WL.pure (v := vI (pd ((s + t : Nat) : Int) (s : Int) (t : Int) (ad ((s + t : Nat) : Int) (s : Int) (t : Int) (k : Int) + n) - (k : Int))) 8 rfl (Nat.le_of_ble_eq_true rfl) rfl rfl (by kernel_rfl) ?_
        refine WL.pure (v := vI (k : Int)) 9 rfl (Nat.le_of_ble_eq_true rfl) rfl rfl (by kernel_rfl) ?_
        refine WL.nil ?_
        refine WQ.inNormal ?_
        refine WQ.then ?_
        refine hK31 _ _ _ ?_
        refine WC.region ?_
        refine WL.pure (v := vI ((k + 1 : Nat) : Int)) 54 rfl (Nat.le_of_ble_eq_true rfl) rfl rfl (x_add (Z := ((k + 1 : Nat) : Int)) rfl rfl rfl (by omega) (by omega) (by omega)) ?_
        refine WL.pure (v := vI ((k + 1 : Nat) : Int)) 34 rfl (Nat.le_of_ble_eq_true rfl) rfl rfl (by kernel_rfl) ?_
        refine WL.nil ?_
        refine WQ.sub (l' := [(1, vI 1), (2, vI n), (3, .func (.func 69) #[] #[]), (8, vI (pd ((s + t : Nat) : Int) (s : Int) (t : Int) (ad ((s + t : Nat) : Int) (s : Int) (t : Int) (k : Int) + n) - (k : Int))), (9, vI (k : Int)), (11, vP bw 0), (33, vI ((s + t : Nat) : Int)), (34, vI ((k + 1 : Nat) : Int))]) ⟨rfl, rfl, rfl, rfl, rfl, rfl, rfl, rfl, trivial⟩ ?_
        refine WQ.then (hK26 _ _ _ (by omega) ⟨k + 1, pd ((s + t : Nat) : Int) (s : Int) (t : Int) (ad ((s + t : Nat) : Int) (s : Int) (t : Int) (k : Int) + n) - (k : Int), (k : Int), rfl, rfl, by omega, .inr ⟨k, rfl, mx_take hj hdl hwt (of_decide_eq_true hB)⟩, hH36⟩)
      ·
        refine WC.no (congrArg (fun b => some (Value.bool b)) hB) ?_
        refine WC.skip ?_
        refine WQ.inNormal ?_
        refine WQ.then ?_
        refine hK31 _ _ _ ?_
        refine WC.region ?_
        refine WL.pure (v := vI ((k + 1 : Nat) : Int)) 54 rfl (Nat.le_of_ble_eq_true rfl) rfl rfl (x_add (Z := ((k + 1 : Nat) : Int)) rfl rfl rfl (by omega) (by omega) (by omega)) ?_
        refine WL.pure (v := vI ((k + 1 : Nat) : Int)) 34 rfl (Nat.le_of_ble_eq_true rfl) rfl rfl (by kernel_rfl) ?_
        refine WL.nil ?_
        refine WQ.sub (l' := [(1, vI 1), (2, vI n), (3, .func (.func 69) #[] #[]), (8, vI dl), (9, vI mm), (11, vP bw 0), (33, vI ((s + t : Nat) : Int)), (34, vI ((k + 1 : Nat) : Int))]) ⟨rfl, rfl, rfl, rfl, rfl, rfl, rfl, rfl, trivial⟩ ?_
        refine WQ.then (hK26 _ _ _ (by omega) ⟨k + 1, dl, mm, rfl, rfl, by omega, .inr ⟨k, rfl, mx_keep hj hdl hwt (of_decide_eq_false hB)⟩, hH36⟩)
  ·
    refine WL.pure (v := .bool false) 35 rfl (Nat.le_of_ble_eq_true rfl) rfl rfl (x_lss rfl rfl rfl (dF (hlt))) ?_
    refine WL.nil ?_
    refine WQ.then ?_
    refine hK29 _ _ _ ?_
    refine WC.seq fun K39 hK39 => ?_
    refine WC.no rfl ?_
    refine WC.exit ?_
    refine WQ.thenExit ?_
    refine WQ.thenExit ?_
    refine WQ.inExit ?_
    refine WQ.then ?_
    refine hK21 _ _ _ ?_
    refine WC.seq fun K40 hK40 => ?_
    refine WC.region ?_
    refine WL.pure (v := vI dl) 55 rfl (Nat.le_of_ble_eq_true rfl) rfl rfl (by kernel_rfl) ?_
    refine WL.pure (v := vI mm) 56 rfl (Nat.le_of_ble_eq_true rfl) rfl rfl (by kernel_rfl) ?_
    refine WL.pure (v := vI dl) 8 rfl (Nat.le_of_ble_eq_true rfl) rfl rfl (by kernel_rfl) ?_
    refine WL.pure (v := vI mm) 9 rfl (Nat.le_of_ble_eq_true rfl) rfl rfl (by kernel_rfl) ?_
    refine WL.pure (v := vI 0) 10 rfl (Nat.le_of_ble_eq_true rfl) rfl rfl (by kernel_rfl) ?_
    refine WL.nil ?_
    refine WQ.then ?_
    refine hK40 _ _ _ ?_
    refine WC.ret ?_
    refine WQ.ret3 8 9 10 rfl rfl rfl rfl ?_
    rcases hks with ⟨q, _⟩ | ⟨j, hj, rfl⟩
    · omega
    · exact ⟨j, mm, by omega, rfl, HP.below hH28⟩
set_option maxRecDepth 20000 in
set_option maxHeartbeats 4000000 in
theorem worst_any (bb oo s t : Nat) (n : Int) (w : World) (hr : LR w bb oo s t) (hs : 1 ≤ s ∧ s ≤ 50) (ht : 1 ≤ t ∧ t ≤ 50) (hn0 : 1 ≤ n) (hn1 : n ≤ 100) :
    Calls Try.prog 47 #[.slice (some ⟨bb, oo, none⟩) 2 2, vI 1, vI n] w fun e w' => ∃ (j : Nat) (mm : Int), s + t = j + 1 ∧ e = .returned (.tuple #[.int .i64 (mx (wt ((s + t : Nat) : Int) (s : Int) (t : Int) n) j), .int .i64 mm, .int .i64 0]) ∧ Below w.heap.size w w' := by
  refine calls_of Try.func47 rfl (m := 16) rfl [(0, .slice (some ⟨bb, oo, none⟩) 2 2), (1, vI 1), (2, vI n)] (Fr_enter [.slice (some ⟨bb, oo, none⟩) 2 2, vI 1, vI n] 16 (Nat.le_of_ble_eq_true rfl)) ?_
  have hH1 : HP Tr w w [] := HP.refl w
  refine WC.seq fun K2 hK2 => ?_
  refine WC.region ?_
  refine WL.pure (v := vI 0) 6 rfl (Nat.le_of_ble_eq_true rfl) rfl rfl (by kernel_rfl) ?_
  refine WL.pure (v := vI 0) 7 rfl (Nat.le_of_ble_eq_true rfl) rfl rfl (by kernel_rfl) ?_
  refine WL.pure (v := vI 0) 8 rfl (Nat.le_of_ble_eq_true rfl) rfl rfl (by kernel_rfl) ?_
  refine WL.nil ?_
  refine WQ.then ?_
  refine hK2 _ _ _ ?_
  refine WC.seq fun K3 hK3 => ?_
  refine WC.region ?_
  refine WL.pure (v := .slice (some ⟨bb, oo, none⟩) 2 2) 9 rfl (Nat.le_of_ble_eq_true rfl) rfl rfl (by kernel_rfl) ?_
  refine WL.pure (v := vI 1) 10 rfl (Nat.le_of_ble_eq_true rfl) rfl rfl (by kernel_rfl) ?_
  refine WL.pure (v := vI n) 11 rfl (Nat.le_of_ble_eq_true rfl) rfl rfl (by kernel_rfl) ?_
  refine WL.call (f := 68) (args := #[.slice (some ⟨bb, oo, none⟩) 2 2, vI 1, vI n, .func (.func 69) #[] #[]]) 12 rfl (Nat.le_of_ble_eq_true rfl) rfl rfl (by kernel_rfl) ?_
  refine (far_any _ _ s t n _ (hr.below (HP.below hH1)) hs ht hn0 hn1).mono ?_
  rintro e w4 ⟨j, mm, hj, rfl, hb5⟩
  refine ⟨_, rfl, ?_⟩
  have hH6 : HP Tr w _ [] := HP.call hH1 hb5
  refine WL.pure (v := vI (mx (wt ((s + t : Nat) : Int) (s : Int) (t : Int) n) j)) 13 rfl (Nat.le_of_ble_eq_true rfl) rfl rfl (by kernel_rfl) ?_
  refine WL.pure (v := vI mm) 14 rfl (Nat.le_of_ble_eq_true rfl) rfl rfl (by kernel_rfl) ?_
  refine WL.pure (v := vI 0) 15 rfl (Nat.le_of_ble_eq_true rfl) rfl rfl (by kernel_rfl) ?_
  refine WL.pure (v := vI (mx (wt ((s + t : Nat) : Int) (s : Int) (t : Int) n) j)) 6 rfl (Nat.le_of_ble_eq_true rfl) rfl rfl (by kernel_rfl) ?_
  refine WL.pure (v := vI mm) 7 rfl (Nat.le_of_ble_eq_true rfl) rfl rfl (by kernel_rfl) ?_
  refine WL.pure (v := vI 0) 8 rfl (Nat.le_of_ble_eq_true rfl) rfl rfl (by kernel_rfl) ?_
  refine WL.nil ?_
  refine WQ.then ?_
  refine hK3 _ _ _ ?_
  refine WC.sub (l' := [(0, .slice (some ⟨bb, oo, none⟩) 2 2), (1, vI 1), (2, vI n), (6, vI (mx (wt ((s + t : Nat) : Int) (s : Int) (t : Int) n) j)), (7, vI mm), (8, vI 0)]) ⟨rfl, rfl, rfl, rfl, rfl, rfl, trivial⟩ ?_
  refine WC.ret ?_
  refine WQ.ret3 6 7 8 rfl rfl rfl rfl ?_
  exact ⟨j, mm, hj, rfl, HP.below hH6⟩
end Bu
end Go.Proofs.Ythiogahpoebamaa
