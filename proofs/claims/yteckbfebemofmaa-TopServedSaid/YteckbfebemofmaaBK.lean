/- The program's stable sort of at most 40; what is asked of every request. -/
import Derived.Test.YteckbfebemofmaaBJ
set_option linter.unusedVariables false
set_option linter.unusedSimpArgs false
namespace Go.Proofs.Yteckbfebemofmaa
open Go.RowKit Fw
namespace Bs
theorem Sd.keep {κ : Int → Int} {a b c d : Nat} {x y : Nat → Int} (h : Sd κ a b x) (hp : Pm c d x y) (ho : b ≤ c ∨ d ≤ a) : Sd κ a b y := h.eq fun i h1 h2 => hp.out (by omega)
/-- the blocks of 20 ahead of a are in order -/
def Bk (κ : Int → Int) (a : Nat) (y : Nat → Int) : Prop := (20 ≤ a → Sd κ 0 20 y) ∧ (40 ≤ a → Sd κ 20 40 y)
theorem Bk.step {κ : Int → Int} {a : Nat} {x y : Nat → Int} (h : Bk κ a x) (ha : a = 0 ∨ a = 20 ∨ a = 40) (hp : Pm a (a + 20) x y) (hs : Sd κ a (a + 20) y) : Bk κ (a + 20) y := by
  rcases ha with rfl | rfl | rfl
  · exact ⟨fun _ => hs, fun q => by omega⟩
  · exact ⟨fun _ => (h.1 (by omega)).keep hp (by omega), fun _ => hs⟩
  · exact ⟨fun _ => (h.1 (by omega)).keep hp (by omega), fun _ => (h.2 (by omega)).keep hp (by omega)⟩
def Fin2 (κ : Int → Int) (N : Nat) (y : Nat → Int) : Prop := (N ≤ 20 ∧ Sd κ 0 N y) ∨ (20 < N ∧ Sd κ 0 20 y ∧ Sd κ 20 N y)
theorem Bk.last {κ : Int → Int} {a N : Nat} {x y : Nat → Int} (h : Bk κ a x) (ha : a = 0 ∨ a = 20 ∨ a = 40) (haN : a ≤ N) (hN : N < a + 20) (h40 : N ≤ 40) (hp : Pm a N x y) (hs : Sd κ a N y) : Fin2 κ N y := by
  rcases ha with rfl | rfl | rfl
  · exact .inl ⟨by omega, hs⟩
  · by_cases e : N = 20
    · subst e; exact .inl ⟨by omega, (h.1 (by omega)).keep hp (by omega)⟩
    · exact .inr ⟨by omega, (h.1 (by omega)).keep hp (by omega), hs⟩
  · obtain rfl : N = 40 := by omega
    exact .inr ⟨by omega, (h.1 (by omega)).keep hp (by omega), (h.2 (by omega)).keep hp (by omega)⟩
/-- where the merging stands, in blocks of s -/
def Mg (κ : Int → Int) (N s : Nat) (y : Nat → Int) : Prop := (s = 20 ∧ Fin2 κ N y) ∨ (s = 40 ∧ Sd κ 0 N y)
theorem Mg.open {κ : Int → Int} {N s : Nat} {y : Nat → Int} (h : Mg κ N s y) (hs : s < N) (hN : N ≤ 40) : s = 20 ∧ Sd κ 0 20 y ∧ Sd κ 20 N y := by
  rcases h with ⟨h1, ⟨h2, h3⟩ | ⟨h2, h3, h4⟩⟩ | ⟨h1, h2⟩
  · omega
  · exact ⟨h1, h3, h4⟩
  · omega
theorem Mg.shut {κ : Int → Int} {N s : Nat} {y : Nat → Int} (h : Mg κ N s y) (hs : ¬ s < N) : Sd κ 0 N y := by
  rcases h with ⟨h1, ⟨h2, h3⟩ | ⟨h2, h3, h4⟩⟩ | ⟨h1, h2⟩
  · exact h3
  · omega
  · exact h2
set_option maxRecDepth 20000 in
set_option maxHeartbeats 4000000 in
theorem stable_any (g b3 nq N : Nat) (κ : Int → Int) (x : Nat → Int) (w : World) (hB : OwnB w [.cel g (irow N x) 3]) (hK : KC g b3 nq κ w) (hN : N ≤ 40) (hx : ∀ i, i < N → 0 ≤ x i ∧ x i < (nq : Int))  :
    Calls Try.prog 44 #[vS g N N, vI (N : Int), .func (.func 33) #[] #[vP b3 0]] w fun e w' => ∃ y, e = .returned (.tuple #[]) ∧ (Pm 0 N x y ∧ Sd κ 0 N y) ∧ HP (Ng g) w w' [.cel g (irow N y) 3] := by
  have hN4 : N ≤ 1000 := by omega
  refine calls_of Try.func44 rfl (m := 63) rfl [(0, vS g N N), (1, vI (N : Int)), (2, .func (.func 33) #[] #[vP b3 0])] (Fr_enter [vS g N N, vI (N : Int), .func (.func 33) #[] #[vP b3 0]] 63 (Nat.le_of_ble_eq_true rfl)) ?_
  refine WC.seq fun K1 hK1 => ?_
  refine WC.region ?_
  refine WL.pure (v := vI 20) 6 rfl (Nat.le_of_ble_eq_true rfl) rfl rfl (by kernel_rfl) ?_
  refine WL.nil ?_
  refine WQ.then ?_
  refine hK1 _ _ _ ?_
  refine WC.seq fun K2 hK2 => ?_
  refine WC.region ?_
  refine WL.pure (v := vI 20) 10 rfl (Nat.le_of_ble_eq_true rfl) rfl rfl (by kernel_rfl) ?_
  refine WL.pure (v := vI 0) 7 rfl (Nat.le_of_ble_eq_true rfl) rfl rfl (by kernel_rfl) ?_
  refine WL.pure (v := vI 20) 8 rfl (Nat.le_of_ble_eq_true rfl) rfl rfl (by kernel_rfl) ?_
  refine WL.nil ?_
  refine WQ.then ?_
  refine hK2 _ _ _ ?_
  refine WC.seq fun K3 hK3 => ?_
  refine WC.block ?_
  refine WC.loop (fun kk0 ll0 ww0 => ∃ (a : Nat) (c : Nat) (y : Nat → Int), ll0 = [(0, vS g N N), (1, vI (N : Int)), (2, .func (.func 33) #[] #[vP b3 0]), (6, vI 20), (7, vI (a : Int)), (8, vI (c : Int))] ∧ kk0 = 100 - a ∧ (a = 0 ∨ a = 20 ∨ a = 40) ∧ (c = a + 20) ∧ (a ≤ N) ∧ (Pm 0 N x y) ∧ (Bk κ a y) ∧ HP (Ng g) w ww0 [.cel g (irow N y) 3]) (100) [(0, vS g N N), (1, vI (N : Int)), (2, .func (.func 33) #[] #[vP b3 0]), (6, vI 20), (7, vI 0), (8, vI 20)] ⟨rfl, rfl, rfl, rfl, rfl, rfl, trivial⟩ ⟨0, 20, x, rfl, rfl, .inl rfl, rfl, Nat.zero_le _, Pm.refl _ _ _, ⟨fun h => by omega, fun h => by omega⟩, (ngB hB)⟩ ?_
  rintro kk l w5 ⟨a, c, y, rfl, hkk, ha, hc, haN, hP, hBk, hH6⟩ K4 hK4
  refine WC.seq fun K7 hK7 => ?_
  refine WC.seq fun K8 hK8 => ?_
  refine WC.region ?_
  refine WL.pure (v := vI (c : Int)) 11 rfl (Nat.le_of_ble_eq_true rfl) rfl rfl (by kernel_rfl) ?_
  refine WL.pure (v := vI (N : Int)) 12 rfl (Nat.le_of_ble_eq_true rfl) rfl rfl (by kernel_rfl) ?_
  by_cases hlt : (c : Int) ≤ (N : Int)
  ·
    refine WL.pure (v := .bool true) 13 rfl (Nat.le_of_ble_eq_true rfl) rfl rfl (x_leq rfl rfl rfl (dT (hlt))) ?_
    refine WL.nil ?_
    refine WQ.then ?_
    refine hK8 _ _ _ ?_
    refine WC.yes rfl ?_
    refine WC.skip ?_
    refine WQ.then ?_
    refine hK7 _ _ _ ?_
    refine WC.block ?_
    refine WC.seq fun K9 hK9 => ?_
    refine WC.region ?_
    refine WL.pure (v := vS g N N) 14 rfl (Nat.le_of_ble_eq_true rfl) rfl rfl (by kernel_rfl) ?_
    refine WL.pure (v := vI (a : Int)) 15 rfl (Nat.le_of_ble_eq_true rfl) rfl rfl (by kernel_rfl) ?_
    refine WL.pure (v := vI (c : Int)) 16 rfl (Nat.le_of_ble_eq_true rfl) rfl rfl (by kernel_rfl) ?_
    refine WL.pure (v := .func (.func 33) #[] #[vP b3 0]) 17 rfl (Nat.le_of_ble_eq_true rfl) rfl rfl (by kernel_rfl) ?_
    refine WL.call (f := 48) (args := #[vS g N N, vI (a : Int), vI (c : Int), .func (.func 33) #[] #[vP b3 0]]) 18 rfl (Nat.le_of_ble_eq_true rfl) rfl rfl (by kernel_rfl) ?_
    refine (insert_any g b3 nq N κ y a c _ (HP.ownB (A := []) hH6) (hK.step hH6) hN4 (hP.bd (by omega) hx) (by omega) (by omega)).mono ?_
    rintro e w10 ⟨y2, rfl, ⟨hP3, hS3⟩, hb4⟩
    refine ⟨_, rfl, ?_⟩
    have hH11 : HP (Ng g) w _ [.cel g (irow N y2) 3] := (seqN hH6 hb4)
    refine WL.nil ?_
    refine WQ.then ?_
    refine hK9 _ _ _ ?_
    refine WC.sub (l' := [(0, vS g N N), (1, vI (N : Int)), (2, .func (.func 33) #[] #[vP b3 0]), (6, vI 20), (7, vI (a : Int)), (8, vI (c : Int)), (13, .bool true)]) ⟨rfl, rfl, rfl, rfl, rfl, rfl, rfl, trivial⟩ ?_
    refine WC.seq fun K12 hK12 => ?_
    refine WC.region ?_
    refine WL.pure (v := vI (c : Int)) 19 rfl (Nat.le_of_ble_eq_true rfl) rfl rfl (by kernel_rfl) ?_
    refine WL.pure (v := vI (c : Int)) 7 rfl (Nat.le_of_ble_eq_true rfl) rfl rfl (by kernel_rfl) ?_
    refine WL.nil ?_
    refine WQ.then ?_
    refine hK12 _ _ _ ?_
    refine WC.region ?_
    refine WL.pure (v := vI (c : Int)) 20 rfl (Nat.le_of_ble_eq_true rfl) rfl rfl (by kernel_rfl) ?_
    refine WL.pure (v := vI 20) 21 rfl (Nat.le_of_ble_eq_true rfl) rfl rfl (by kernel_rfl) ?_
    refine WL.pure (v := vI ((c + 20 : Nat) : Int)) 22 rfl (Nat.le_of_ble_eq_true rfl) rfl rfl (x_add (Z := ((c + 20 : Nat) : Int)) rfl rfl rfl (by omega) (by omega) (by omega)) ?_
    refine WL.pure (v := vI ((c + 20 : Nat) : Int)) 8 rfl (Nat.le_of_ble_eq_true rfl) rfl rfl (by kernel_rfl) ?_
    refine WL.nil ?_
    refine WQ.inNormal ?_
    refine WQ.sub (l' := [(0, vS g N N), (1, vI (N : Int)), (2, .func (.func 33) #[] #[vP b3 0]), (6, vI 20), (7, vI (c : Int)), (8, vI ((c + 20 : Nat) : Int))]) ⟨rfl, rfl, rfl, rfl, rfl, rfl, trivial⟩ ?_
    refine WQ.then (hK4 _ _ _ (by omega) ⟨c, c + 20, y2, rfl, rfl, by omega, by omega, by omega, hP.trans (hP3.mono (by omega) (by omega)), by rw [hc]; exact hBk.step ha (by rw [← hc]; exact hP3) (by rw [← hc]; exact hS3), hH11⟩)
  ·
    refine WL.pure (v := .bool false) 13 rfl (Nat.le_of_ble_eq_true rfl) rfl rfl (x_leq rfl rfl rfl (dF (hlt))) ?_
    refine WL.nil ?_
    refine WQ.then ?_
    refine hK8 _ _ _ ?_
    refine WC.no rfl ?_
    refine WC.exit ?_
    refine WQ.thenExit ?_
    refine WQ.thenExit ?_
    refine WQ.inExit ?_
    refine WQ.then ?_
    refine hK3 _ _ _ ?_
    refine WC.seq fun K13 hK13 => ?_
    refine WC.region ?_
    refine WL.pure (v := vS g N N) 23 rfl (Nat.le_of_ble_eq_true rfl) rfl rfl (by kernel_rfl) ?_
    refine WL.pure (v := vI (a : Int)) 24 rfl (Nat.le_of_ble_eq_true rfl) rfl rfl (by kernel_rfl) ?_
    refine WL.pure (v := vI (N : Int)) 25 rfl (Nat.le_of_ble_eq_true rfl) rfl rfl (by kernel_rfl) ?_
    refine WL.pure (v := .func (.func 33) #[] #[vP b3 0]) 26 rfl (Nat.le_of_ble_eq_true rfl) rfl rfl (by kernel_rfl) ?_
    refine WL.call (f := 48) (args := #[vS g N N, vI (a : Int), vI (N : Int), .func (.func 33) #[] #[vP b3 0]]) 27 rfl (Nat.le_of_ble_eq_true rfl) rfl rfl (by kernel_rfl) ?_
    refine (insert_any g b3 nq N κ y a N _ (HP.ownB (A := []) hH6) (hK.step hH6) hN4 (hP.bd (by omega) hx) (by omega) (by omega)).mono ?_
    rintro e w14 ⟨y2, rfl, ⟨hP3, hS3⟩, hb4⟩
    refine ⟨_, rfl, ?_⟩
    have hH15 : HP (Ng g) w _ [.cel g (irow N y2) 3] := (seqN hH6 hb4)
    refine WL.nil ?_
    refine WQ.then ?_
    refine hK13 _ _ _ ?_
    refine WC.sub (l' := [(0, vS g N N), (1, vI (N : Int)), (2, .func (.func 33) #[] #[vP b3 0]), (6, vI 20), (7, vI (a : Int)), (8, vI (c : Int)), (13, .bool false)]) ⟨rfl, rfl, rfl, rfl, rfl, rfl, rfl, trivial⟩ ?_
    refine WC.block ?_
    refine WC.loop (fun kk0 ll0 ww0 => ∃ (s : Nat) (u : Nat → Int), ll0 = [(0, vS g N N), (1, vI (N : Int)), (2, .func (.func 33) #[] #[vP b3 0]), (6, vI (s : Int))] ∧ kk0 = 60 - s ∧ (s = 20 ∨ s = 40) ∧ (Pm 0 N x u) ∧ (Mg κ N s u) ∧ HP (Ng g) w ww0 [.cel g (irow N u) 3]) (40) [(0, vS g N N), (1, vI (N : Int)), (2, .func (.func 33) #[] #[vP b3 0]), (6, vI 20)] ⟨rfl, rfl, rfl, rfl, trivial⟩ ⟨20, y2, rfl, rfl, .inl rfl, hP.trans (hP3.mono (by omega) (Nat.le_refl _)), .inl ⟨rfl, hBk.last ha haN (by omega) hN hP3 hS3⟩, hH15⟩ ?_
    rintro kk l w17 ⟨s, u, rfl, hkk, hs9, hPu, hMu, hH18⟩ K16 hK16
    refine WC.seq fun K19 hK19 => ?_
    refine WC.seq fun K20 hK20 => ?_
    refine WC.region ?_
    refine WL.pure (v := vI (s : Int)) 28 rfl (Nat.le_of_ble_eq_true rfl) rfl rfl (by kernel_rfl) ?_
    refine WL.pure (v := vI (N : Int)) 29 rfl (Nat.le_of_ble_eq_true rfl) rfl rfl (by kernel_rfl) ?_
    by_cases hsN : (s : Int) < (N : Int)
    ·
      refine WL.pure (v := .bool true) 30 rfl (Nat.le_of_ble_eq_true rfl) rfl rfl (x_lss rfl rfl rfl (dT (hsN))) ?_
      refine WL.nil ?_
      refine WQ.then ?_
      refine hK20 _ _ _ ?_
      refine WC.yes rfl ?_
      refine WC.skip ?_
      refine WQ.then ?_
      refine hK19 _ _ _ ?_
      refine WC.block ?_
      refine WC.seq fun K21 hK21 => ?_
      obtain ⟨hs0, hu1, hu2⟩ := hMu.open (by omega) hN
      refine WC.region ?_
      refine WL.pure (v := vI (s : Int)) 31 rfl (Nat.le_of_ble_eq_true rfl) rfl rfl (by kernel_rfl) ?_
      refine WL.pure (v := vI ((2 * s : Nat) : Int)) 32 rfl (Nat.le_of_ble_eq_true rfl) rfl rfl (x_mul (Z := ((2 * s : Nat) : Int)) rfl rfl rfl (by omega) (by omega) (by omega)) ?_
      refine WL.pure (v := vI 0) 7 rfl (Nat.le_of_ble_eq_true rfl) rfl rfl (by kernel_rfl) ?_
      refine WL.pure (v := vI ((2 * s : Nat) : Int)) 8 rfl (Nat.le_of_ble_eq_true rfl) rfl rfl (by kernel_rfl) ?_
      refine WL.nil ?_
      refine WQ.then ?_
      refine hK21 _ _ _ ?_
      refine WC.seq fun K22 hK22 => ?_
      refine WC.block ?_
      refine WC.loop (fun kk0 ll0 ww0 => ∃ (a : Nat) (c : Nat) (z : Nat → Int), ll0 = [(0, vS g N N), (1, vI (N : Int)), (2, .func (.func 33) #[] #[vP b3 0]), (6, vI (s : Int)), (7, vI (a : Int)), (8, vI (c : Int))] ∧ kk0 = 100 - c ∧ (Pm 0 N x z) ∧ ((a = 0 ∧ c = 40 ∧ Sd κ 0 20 z ∧ Sd κ 20 N z) ∨ (a = 40 ∧ c = 80 ∧ N = 40 ∧ Sd κ 0 N z)) ∧ HP (Ng g) w ww0 [.cel g (irow N z) 3]) (100 - 2 * s) [(0, vS g N N), (1, vI (N : Int)), (2, .func (.func 33) #[] #[vP b3 0]), (6, vI (s : Int)), (7, vI 0), (8, vI ((2 * s : Nat) : Int))] ⟨rfl, rfl, rfl, rfl, rfl, rfl, trivial⟩ ⟨0, 2 * s, u, rfl, rfl, hPu, .inl ⟨rfl, by omega, hu1, hu2⟩, hH18⟩ ?_
      rintro kk l w24 ⟨a, c, z, rfl, hkk, hP2, hI, hH25⟩ K23 hK23
      refine WC.seq fun K26 hK26 => ?_
      refine WC.seq fun K27 hK27 => ?_
      refine WC.region ?_
      refine WL.pure (v := vI (c : Int)) 33 rfl (Nat.le_of_ble_eq_true rfl) rfl rfl (by kernel_rfl) ?_
      refine WL.pure (v := vI (N : Int)) 34 rfl (Nat.le_of_ble_eq_true rfl) rfl rfl (by kernel_rfl) ?_
      by_cases hcN : (c : Int) ≤ (N : Int)
      ·
        refine WL.pure (v := .bool true) 35 rfl (Nat.le_of_ble_eq_true rfl) rfl rfl (x_leq rfl rfl rfl (dT (hcN))) ?_
        refine WL.nil ?_
        refine WQ.then ?_
        refine hK27 _ _ _ ?_
        refine WC.yes rfl ?_
        refine WC.skip ?_
        refine WQ.then ?_
        refine hK26 _ _ _ ?_
        refine WC.block ?_
        refine WC.seq fun K28 hK28 => ?_
        refine WC.region ?_
        refine WL.pure (v := vS g N N) 36 rfl (Nat.le_of_ble_eq_true rfl) rfl rfl (by kernel_rfl) ?_
        refine WL.pure (v := vI (a : Int)) 37 rfl (Nat.le_of_ble_eq_true rfl) rfl rfl (by kernel_rfl) ?_
        refine WL.pure (v := vI (a : Int)) 38 rfl (Nat.le_of_ble_eq_true rfl) rfl rfl (by kernel_rfl) ?_
        refine WL.pure (v := vI (s : Int)) 39 rfl (Nat.le_of_ble_eq_true rfl) rfl rfl (by kernel_rfl) ?_
        refine WL.pure (v := vI ((a + s : Nat) : Int)) 40 rfl (Nat.le_of_ble_eq_true rfl) rfl rfl (x_add (Z := ((a + s : Nat) : Int)) rfl rfl rfl (by omega) (by omega) (by omega)) ?_
        refine WL.pure (v := vI (c : Int)) 41 rfl (Nat.le_of_ble_eq_true rfl) rfl rfl (by kernel_rfl) ?_
        refine WL.pure (v := .func (.func 33) #[] #[vP b3 0]) 42 rfl (Nat.le_of_ble_eq_true rfl) rfl rfl (by kernel_rfl) ?_
        refine WL.call (f := 49) (args := #[vS g N N, vI (a : Int), vI ((a + s : Nat) : Int), vI (c : Int), .func (.func 33) #[] #[vP b3 0]]) 43 rfl (Nat.le_of_ble_eq_true rfl) rfl rfl (by kernel_rfl) ?_
        obtain ⟨ha0, hc0, hs1, hs2⟩ : a = 0 ∧ c = 40 ∧ Sd κ 0 20 z ∧ Sd κ 20 N z := by
          rcases hI with h | h
          · exact h
          · omega
        refine (symB_all hN4 (c + 1) a (a + s) c z _ (by omega) (HP.ownB (A := []) hH25) (hK.step hH25) (hP2.bd (by omega) hx) (by omega) (by omega) (by omega) (by rw [ha0, hs0]; exact hs1) (by rw [ha0, hs0, show c = N by omega]; exact hs2)).mono ?_
        rintro e w29 ⟨y2, rfl, ⟨hP3, hS3⟩, hb4⟩
        refine ⟨_, rfl, ?_⟩
        have hH30 : HP (Ng g) w _ [.cel g (irow N y2) 3] := (seqN hH25 hb4)
        refine WL.nil ?_
        refine WQ.then ?_
        refine hK28 _ _ _ ?_
        refine WC.sub (l' := [(0, vS g N N), (1, vI (N : Int)), (2, .func (.func 33) #[] #[vP b3 0]), (6, vI (s : Int)), (7, vI (a : Int)), (8, vI (c : Int)), (35, .bool true)]) ⟨rfl, rfl, rfl, rfl, rfl, rfl, rfl, trivial⟩ ?_
        refine WC.seq fun K31 hK31 => ?_
        refine WC.region ?_
        refine WL.pure (v := vI (c : Int)) 44 rfl (Nat.le_of_ble_eq_true rfl) rfl rfl (by kernel_rfl) ?_
        refine WL.pure (v := vI (c : Int)) 7 rfl (Nat.le_of_ble_eq_true rfl) rfl rfl (by kernel_rfl) ?_
        refine WL.nil ?_
        refine WQ.then ?_
        refine hK31 _ _ _ ?_
        refine WC.region ?_
        refine WL.pure (v := vI (c : Int)) 45 rfl (Nat.le_of_ble_eq_true rfl) rfl rfl (by kernel_rfl) ?_
        refine WL.pure (v := vI (s : Int)) 46 rfl (Nat.le_of_ble_eq_true rfl) rfl rfl (by kernel_rfl) ?_
        refine WL.pure (v := vI ((2 * s : Nat) : Int)) 47 rfl (Nat.le_of_ble_eq_true rfl) rfl rfl (x_mul (Z := ((2 * s : Nat) : Int)) rfl rfl rfl (by omega) (by omega) (by omega)) ?_
        refine WL.pure (v := vI ((c + 2 * s : Nat) : Int)) 48 rfl (Nat.le_of_ble_eq_true rfl) rfl rfl (x_add (Z := ((c + 2 * s : Nat) : Int)) rfl rfl rfl (by omega) (by omega) (by omega)) ?_
        refine WL.pure (v := vI ((c + 2 * s : Nat) : Int)) 8 rfl (Nat.le_of_ble_eq_true rfl) rfl rfl (by kernel_rfl) ?_
        refine WL.nil ?_
        refine WQ.inNormal ?_
        refine WQ.sub (l' := [(0, vS g N N), (1, vI (N : Int)), (2, .func (.func 33) #[] #[vP b3 0]), (6, vI (s : Int)), (7, vI (c : Int)), (8, vI ((c + 2 * s : Nat) : Int))]) ⟨rfl, rfl, rfl, rfl, rfl, rfl, trivial⟩ ?_
        refine WQ.then (hK23 _ _ _ (by omega) ⟨c, c + 2 * s, y2, rfl, rfl, hP2.trans (hP3.mono (by omega) (by omega)), .inr ⟨by omega, by omega, by omega, (show N = c by omega) ▸ ha0 ▸ hS3⟩, hH30⟩)
      ·
        refine WL.pure (v := .bool false) 35 rfl (Nat.le_of_ble_eq_true rfl) rfl rfl (x_leq rfl rfl rfl (dF (hcN))) ?_
        refine WL.nil ?_
        refine WQ.then ?_
        refine hK27 _ _ _ ?_
        refine WC.no rfl ?_
        refine WC.exit ?_
        refine WQ.thenExit ?_
        refine WQ.thenExit ?_
        refine WQ.inExit ?_
        refine WQ.then ?_
        refine hK22 _ _ _ ?_
        refine WC.seq fun K32 hK32 => ?_
        refine WC.seq fun K33 hK33 => ?_
        refine WC.region ?_
        refine WL.pure (v := vI (a : Int)) 49 rfl (Nat.le_of_ble_eq_true rfl) rfl rfl (by kernel_rfl) ?_
        refine WL.pure (v := vI (s : Int)) 50 rfl (Nat.le_of_ble_eq_true rfl) rfl rfl (by kernel_rfl) ?_
        refine WL.pure (v := vI ((a + s : Nat) : Int)) 51 rfl (Nat.le_of_ble_eq_true rfl) rfl rfl (x_add (Z := ((a + s : Nat) : Int)) rfl rfl rfl (by omega) (by omega) (by omega)) ?_
        refine WL.pure (v := vI ((a + s : Nat) : Int)) 9 rfl (Nat.le_of_ble_eq_true rfl) rfl rfl (by kernel_rfl) ?_
        refine WL.nil ?_
        refine WQ.then ?_
        refine hK33 _ _ _ ?_
        refine WC.seq fun K34 hK34 => ?_
        refine WC.region ?_
        refine WL.pure (v := vI ((a + s : Nat) : Int)) 52 rfl (Nat.le_of_ble_eq_true rfl) rfl rfl (by kernel_rfl) ?_
        refine WL.pure (v := vI (N : Int)) 53 rfl (Nat.le_of_ble_eq_true rfl) rfl rfl (by kernel_rfl) ?_
        by_cases hmN : ((a + s : Nat) : Int) < (N : Int)
        ·
          refine WL.pure (v := .bool true) 54 rfl (Nat.le_of_ble_eq_true rfl) rfl rfl (x_lss rfl rfl rfl (dT (hmN))) ?_
          refine WL.nil ?_
          refine WQ.then ?_
          refine hK34 _ _ _ ?_
          refine WC.sub (l' := [(0, vS g N N), (1, vI (N : Int)), (2, .func (.func 33) #[] #[vP b3 0]), (6, vI (s : Int)), (7, vI (a : Int)), (8, vI (c : Int)), (9, vI ((a + s : Nat) : Int)), (35, .bool false), (54, .bool true)]) ⟨rfl, rfl, rfl, rfl, rfl, rfl, rfl, rfl, rfl, trivial⟩ ?_
          refine WC.yes rfl ?_
          refine WC.region ?_
          refine WL.pure (v := vS g N N) 55 rfl (Nat.le_of_ble_eq_true rfl) rfl rfl (by kernel_rfl) ?_
          refine WL.pure (v := vI (a : Int)) 56 rfl (Nat.le_of_ble_eq_true rfl) rfl rfl (by kernel_rfl) ?_
          refine WL.pure (v := vI ((a + s : Nat) : Int)) 57 rfl (Nat.le_of_ble_eq_true rfl) rfl rfl (by kernel_rfl) ?_
          refine WL.pure (v := vI (N : Int)) 58 rfl (Nat.le_of_ble_eq_true rfl) rfl rfl (by kernel_rfl) ?_
          refine WL.pure (v := .func (.func 33) #[] #[vP b3 0]) 59 rfl (Nat.le_of_ble_eq_true rfl) rfl rfl (by kernel_rfl) ?_
          refine WL.call (f := 49) (args := #[vS g N N, vI (a : Int), vI ((a + s : Nat) : Int), vI (N : Int), .func (.func 33) #[] #[vP b3 0]]) 60 rfl (Nat.le_of_ble_eq_true rfl) rfl rfl (by kernel_rfl) ?_
          obtain ⟨ha0, hc0, hs1, hs2⟩ : a = 0 ∧ c = 40 ∧ Sd κ 0 20 z ∧ Sd κ 20 N z := by
            rcases hI with h | h
            · exact h
            · omega
          refine (symB_all hN4 (N + 1) a (a + s) N z _ (by omega) (HP.ownB (A := []) hH25) (hK.step hH25) (hP2.bd (by omega) hx) (by omega) (by omega) (by omega) (by rw [ha0, hs0]; exact hs1) (by rw [ha0, hs0, show N = N by omega]; exact hs2)).mono ?_
          rintro e w35 ⟨y2, rfl, ⟨hP3, hS3⟩, hb4⟩
          refine ⟨_, rfl, ?_⟩
          have hH36 : HP (Ng g) w _ [.cel g (irow N y2) 3] := (seqN hH25 hb4)
          refine WL.nil ?_
          refine WQ.then ?_
          refine hK32 _ _ _ ?_
          have hPz := hP2.trans (hP3.mono (by omega) (by omega))
          have hMg : Mg κ N (s * 2) y2 := .inr ⟨by omega, by rw [ha0] at hS3; exact hS3⟩
          refine WC.region ?_
          refine WL.pure (v := vI (s : Int)) 61 rfl (Nat.le_of_ble_eq_true rfl) rfl rfl (by kernel_rfl) ?_
          refine WL.pure (v := vI ((s * 2 : Nat) : Int)) 62 rfl (Nat.le_of_ble_eq_true rfl) rfl rfl (x_mul (Z := ((s * 2 : Nat) : Int)) rfl rfl rfl (by omega) (by omega) (by omega)) ?_
          refine WL.pure (v := vI ((s * 2 : Nat) : Int)) 6 rfl (Nat.le_of_ble_eq_true rfl) rfl rfl (by kernel_rfl) ?_
          refine WL.nil ?_
          refine WQ.inNormal ?_
          refine WQ.sub (l' := [(0, vS g N N), (1, vI (N : Int)), (2, .func (.func 33) #[] #[vP b3 0]), (6, vI ((s * 2 : Nat) : Int))]) ⟨rfl, rfl, rfl, rfl, trivial⟩ ?_
          refine WQ.then (hK16 _ _ _ (by omega) ⟨s * 2, y2, rfl, rfl, by omega, hPz, hMg, hH36⟩)
        ·
          refine WL.pure (v := .bool false) 54 rfl (Nat.le_of_ble_eq_true rfl) rfl rfl (x_lss rfl rfl rfl (dF (hmN))) ?_
          refine WL.nil ?_
          refine WQ.then ?_
          refine hK34 _ _ _ ?_
          refine WC.sub (l' := [(0, vS g N N), (1, vI (N : Int)), (2, .func (.func 33) #[] #[vP b3 0]), (6, vI (s : Int)), (7, vI (a : Int)), (8, vI (c : Int)), (9, vI ((a + s : Nat) : Int)), (35, .bool false), (54, .bool false)]) ⟨rfl, rfl, rfl, rfl, rfl, rfl, rfl, rfl, rfl, trivial⟩ ?_
          refine WC.no rfl ?_
          refine WC.skip ?_
          refine WQ.then ?_
          refine hK32 _ _ _ ?_
          have hPz := hP2
          have hMg : Mg κ N (s * 2) z := by
            refine .inr ⟨by omega, ?_⟩
            rcases hI with ⟨h1, h2, h3, h4⟩ | ⟨h1, h2, h3, h4⟩
            · omega
            · exact h4
          refine WC.region ?_
          refine WL.pure (v := vI (s : Int)) 61 rfl (Nat.le_of_ble_eq_true rfl) rfl rfl (by kernel_rfl) ?_
          refine WL.pure (v := vI ((s * 2 : Nat) : Int)) 62 rfl (Nat.le_of_ble_eq_true rfl) rfl rfl (x_mul (Z := ((s * 2 : Nat) : Int)) rfl rfl rfl (by omega) (by omega) (by omega)) ?_
          refine WL.pure (v := vI ((s * 2 : Nat) : Int)) 6 rfl (Nat.le_of_ble_eq_true rfl) rfl rfl (by kernel_rfl) ?_
          refine WL.nil ?_
          refine WQ.inNormal ?_
          refine WQ.sub (l' := [(0, vS g N N), (1, vI (N : Int)), (2, .func (.func 33) #[] #[vP b3 0]), (6, vI ((s * 2 : Nat) : Int))]) ⟨rfl, rfl, rfl, rfl, trivial⟩ ?_
          refine WQ.then (hK16 _ _ _ (by omega) ⟨s * 2, z, rfl, rfl, by omega, hPz, hMg, hH25⟩)
    ·
      refine WL.pure (v := .bool false) 30 rfl (Nat.le_of_ble_eq_true rfl) rfl rfl (x_lss rfl rfl rfl (dF (hsN))) ?_
      refine WL.nil ?_
      refine WQ.then ?_
      refine hK20 _ _ _ ?_
      refine WC.no rfl ?_
      refine WC.exit ?_
      refine WQ.thenExit ?_
      refine WQ.thenExit ?_
      refine WQ.inExit ?_
      refine WQ.end0 rfl ?_
      exact ⟨u, rfl, ⟨hPu, hMu.shut (by omega)⟩, hH18⟩
set_option maxRecDepth 20000 in
set_option maxHeartbeats 4000000 in
theorem sortS_any (g b3 nq N : Nat) (κ : Int → Int) (x : Nat → Int) (w : World) (hB : OwnB w [.cel g (irow N x) 3]) (hK : KC g b3 nq κ w) (hN : N ≤ 40) (hx : ∀ i, i < N → 0 ≤ x i ∧ x i < (nq : Int))  :
    Calls Try.prog 32 #[vS g N N, .func (.func 33) #[] #[vP b3 0]] w fun e w' => ∃ y, e = .returned (.tuple #[]) ∧ (Pm 0 N x y ∧ Sd κ 0 N y) ∧ HP (Ng g) w w' [.cel g (irow N y) 3] := by
  refine calls_of Try.func32 rfl (m := 9) rfl [(0, vS g N N), (1, .func (.func 33) #[] #[vP b3 0])] (Fr_enter [vS g N N, .func (.func 33) #[] #[vP b3 0]] 9 (Nat.le_of_ble_eq_true rfl)) ?_
  refine WC.region ?_
  refine WL.pure (v := vS g N N) 4 rfl (Nat.le_of_ble_eq_true rfl) rfl rfl (by kernel_rfl) ?_
  refine WL.pure (v := vS g N N) 5 rfl (Nat.le_of_ble_eq_true rfl) rfl rfl (by kernel_rfl) ?_
  refine WL.pure (v := vI (N : Int)) 6 rfl (Nat.le_of_ble_eq_true rfl) rfl rfl (by kernel_rfl) ?_
  refine WL.pure (v := .func (.func 33) #[] #[vP b3 0]) 7 rfl (Nat.le_of_ble_eq_true rfl) rfl rfl (by kernel_rfl) ?_
  refine WL.call (f := 44) (args := #[vS g N N, vI (N : Int), .func (.func 33) #[] #[vP b3 0]]) 8 rfl (Nat.le_of_ble_eq_true rfl) rfl rfl (by kernel_rfl) ?_
  refine (stable_any g b3 nq N κ x _ (HP.ownB (A := []) (ngB hB)) (hK.step (ngB hB)) hN hx).mono ?_
  rintro e w1 ⟨y2, rfl, ⟨hP3, hS3⟩, hb4⟩
  refine ⟨_, rfl, ?_⟩
  have hH2 : HP (Ng g) w _ [.cel g (irow N y2) 3] := (seqN (ngB hB) hb4)
  refine WL.nil ?_
  refine WQ.end0 rfl ?_
  exact ⟨y2, rfl, ⟨hP3, hS3⟩, hH2⟩
set_option maxRecDepth 20000 in
set_option maxHeartbeats 4000000 in
theorem badR_any (m t n : Int) (w : World) (hr : okR m t n = true) :
    Calls Try.prog 30 #[.agg #[vI m, vI t, vI n]] w fun e w' => e = .returned (.bool false) ∧ Below w.heap.size w w' := by
  refine calls_of Try.func30 rfl (m := 6) rfl [(0, .agg #[vI m, vI t, vI n])] (Fr_enter [.agg #[vI m, vI t, vI n]] 6 (Nat.le_of_ble_eq_true rfl)) ?_
  have hH1 : HP Tr w w [] := HP.refl w
  refine WC.seq fun K2 hK2 => ?_
  refine WC.region ?_
  refine WL.alloc (c := #[vI m, vI t, vI n]) (T := 30) hH1 1 rfl (by decide) rfl rfl (fun b1 => vP b1 0) (by kernel_rfl) (fun b1 w3 hw3 => ?_)
  have hH4 : HP Tr w w3 [.cel b1 #[vI m, vI t, vI n] 30] := hw3.2
  have nb1 := hw3.1
  clear hw3
  refine WL.pure (v := .bool false) 2 rfl (Nat.le_of_ble_eq_true rfl) rfl rfl (by kernel_rfl) ?_
  refine WL.nil ?_
  refine WQ.then ?_
  refine hK2 _ _ _ ?_
  refine WC.seq fun K5 hK5 => ?_
  refine WC.region ?_
  refine WL.pure (v := .agg #[vI m, vI t, vI n]) 3 rfl (Nat.le_of_ble_eq_true rfl) rfl rfl (x_loadS (cs := [vI m, vI t, vI n]) rfl rfl Try.underlying30 rfl sz30 (HP.range hH4 0 rfl rfl)) ?_
  refine WL.call (f := 18) (args := #[.agg #[vI m, vI t, vI n]]) 4 rfl (Nat.le_of_ble_eq_true rfl) rfl rfl (by kernel_rfl) ?_
  refine (isReq_at hr _).mono ?_
  rintro e w6 ⟨rfl, hb7⟩
  refine ⟨_, rfl, ?_⟩
  have hH8 : HP Tr w _ [.cel b1 #[vI m, vI t, vI n] 30] := HP.call hH4 hb7
  refine WL.pure (v := .bool false) 5 rfl (Nat.le_of_ble_eq_true rfl) rfl rfl (by kernel_rfl) ?_
  refine WL.pure (v := .bool false) 2 rfl (Nat.le_of_ble_eq_true rfl) rfl rfl (by kernel_rfl) ?_
  refine WL.nil ?_
  refine WQ.then ?_
  refine hK5 _ _ _ ?_
  refine WC.ret ?_
  refine WQ.ret1 2 rfl rfl ?_
  exact ⟨rfl, HP.below hH8⟩
set_option maxRecDepth 20000 in
set_option maxHeartbeats 4000000 in
theorem noTick_any (W : Wh) (b7 m : Nat) (t n : Int) (w : World) (hm : m < 4) (hcl : ∀ m, m < 4 → w.cell? ⟨b7, 1 + m, none⟩ = some (W.v (m + 1))) (hn : 0 < W.n (m + 1)) :
    Calls Try.prog 31 #[.agg #[vI (m : Int), vI t, vI n], vP b7 0] w fun e w' => e = .returned (.bool false) ∧ Below w.heap.size w w' := by
  refine calls_of Try.func31 rfl (m := 11) rfl [(0, .agg #[vI (m : Int), vI t, vI n]), (1, vP b7 0)] (Fr_enter [.agg #[vI (m : Int), vI t, vI n], vP b7 0] 11 (Nat.le_of_ble_eq_true rfl)) ?_
  have hH1 : HP Tr w w [] := HP.refl w
  refine WC.seq fun K2 hK2 => ?_
  refine WC.region ?_
  refine WL.alloc (c := #[vI (m : Int), vI t, vI n]) (T := 30) hH1 2 rfl (by decide) rfl rfl (fun b2 => vP b2 0) (by kernel_rfl) (fun b2 w3 hw3 => ?_)
  have hH4 : HP Tr w w3 [.cel b2 #[vI (m : Int), vI t, vI n] 30] := hw3.2
  have nb2 := hw3.1
  clear hw3
  refine WL.pure (v := .bool false) 3 rfl (Nat.le_of_ble_eq_true rfl) rfl rfl (by kernel_rfl) ?_
  refine WL.nil ?_
  refine WQ.then ?_
  refine hK2 _ _ _ ?_
  refine WC.seq fun K5 hK5 => ?_
  refine WC.region ?_
  refine WL.pure (v := vP b2 0) 4 rfl (Nat.le_of_ble_eq_true rfl) rfl rfl (by kernel_rfl) ?_
  refine WL.pure (v := vI (m : Int)) 5 rfl (Nat.le_of_ble_eq_true rfl) rfl rfl (x_load rfl rfl Try.underlying3 rfl (HP.cell hH4 0 rfl rfl)) ?_
  refine WL.pure (v := vP b7 1) 6 rfl (Nat.le_of_ble_eq_true rfl) rfl rfl (by kernel_rfl) ?_
  refine WL.pure (v := vP b7 (1 + m)) 7 rfl (Nat.le_of_ble_eq_true rfl) rfl rfl (x_idxArr (m) (1 + m) rfl rfl rfl Try.underlying53 sz23 (by omega) (by omega) (by omega)) ?_
  refine WL.pure (v := .slice (W.p (m + 1)) (W.n (m + 1)) (W.c (m + 1))) 8 rfl (Nat.le_of_ble_eq_true rfl) rfl rfl (x_load rfl rfl Try.underlying23 rfl (HP.old hH4 trivial (hcl m hm))) ?_
  refine WL.pure (v := vI (((W.n (m + 1)) : Nat) : Int)) 9 rfl (Nat.le_of_ble_eq_true rfl) rfl rfl (by kernel_rfl) ?_
  refine WL.pure (v := .bool false) 10 rfl (Nat.le_of_ble_eq_true rfl) rfl rfl (x_eql rfl rfl rfl (dF (by omega))) ?_
  refine WL.pure (v := .bool false) 3 rfl (Nat.le_of_ble_eq_true rfl) rfl rfl (by kernel_rfl) ?_
  refine WL.nil ?_
  refine WQ.then ?_
  refine hK5 _ _ _ ?_
  refine WC.sub (l' := [(0, .agg #[vI (m : Int), vI t, vI n]), (2, vP b2 0), (3, .bool false)]) ⟨rfl, rfl, rfl, trivial⟩ ?_
  refine WC.ret ?_
  refine WQ.ret1 3 rfl rfl ?_
  exact ⟨rfl, HP.below hH4⟩
set_option maxRecDepth 20000 in
set_option maxHeartbeats 4000000 in
theorem indexF1_any (pq : Option Addr) (cq : Nat) (q : List Rq) (w : World) (hI : InQ w pq q) (hq : q.length ≤ 1000) (hF : ∀ w2, Below w.heap.size w w2 → ∀ i, i < q.length → Calls Try.prog 30 #[.agg #[vI (qM q i), vI (qT q i), vI (qN q i)]] w2 fun e w3 => e = .returned (.bool false) ∧ Below w2.heap.size w2 w3) :
    Calls Try.prog 43 #[.slice pq q.length cq, .func (.func 30) #[] #[]] w fun e w' => e = .returned (.int .i64 (-1)) ∧ Below w.heap.size w w' := by
  refine calls_of Try.func43 rfl (m := 19) rfl [(0, .slice pq q.length cq), (1, .func (.func 30) #[] #[])] (Fr_enter [.slice pq q.length cq, .func (.func 30) #[] #[]] 19 (Nat.le_of_ble_eq_true rfl)) ?_
  have hH1 : HP Tr w w [] := HP.refl w
  refine WC.seq fun K2 hK2 => ?_
  refine WC.region ?_
  refine WL.pure (v := vI 0) 4 rfl (Nat.le_of_ble_eq_true rfl) rfl rfl (by kernel_rfl) ?_
  refine WL.nil ?_
  refine WQ.then ?_
  refine hK2 _ _ _ ?_
  refine WC.seq fun K3 hK3 => ?_
  refine WC.seq fun K4 hK4 => ?_
  refine WC.region ?_
  refine WL.pure (v := .slice pq q.length cq) 6 rfl (Nat.le_of_ble_eq_true rfl) rfl rfl (by kernel_rfl) ?_
  refine WL.pure (v := vI (q.length : Int)) 7 rfl (Nat.le_of_ble_eq_true rfl) rfl rfl (by kernel_rfl) ?_
  refine WL.pure (v := vI 0) 8 rfl (Nat.le_of_ble_eq_true rfl) rfl rfl (by kernel_rfl) ?_
  refine WL.nil ?_
  refine WQ.then ?_
  refine hK4 _ _ _ ?_
  refine WC.block ?_
  refine WC.loop (fun kk0 ll0 ww0 => ∃ (i : Nat), ll0 = [(0, .slice pq q.length cq), (1, .func (.func 30) #[] #[]), (4, vI 0), (7, vI (q.length : Int)), (8, vI (i : Int))] ∧ kk0 = q.length - i ∧ (i ≤ q.length) ∧ HP Tr w ww0 []) (q.length) [(0, .slice pq q.length cq), (1, .func (.func 30) #[] #[]), (4, vI 0), (7, vI (q.length : Int)), (8, vI 0)] ⟨rfl, rfl, rfl, rfl, rfl, trivial⟩ ⟨0, rfl, rfl, Nat.zero_le _, hH1⟩ ?_
  rintro kk l w6 ⟨i, rfl, hkk, hi, hH7⟩ K5 hK5
  refine WC.seq fun K8 hK8 => ?_
  refine WC.region ?_
  by_cases hlt : (i : Int) < (q.length : Int)
  ·
    refine WL.pure (v := .bool true) 9 rfl (Nat.le_of_ble_eq_true rfl) rfl rfl (x_lss rfl rfl rfl (dT (hlt))) ?_
    refine WL.nil ?_
    refine WQ.then ?_
    refine hK8 _ _ _ ?_
    refine WC.seq fun K9 hK9 => ?_
    refine WC.yes rfl ?_
    refine WC.skip ?_
    refine WQ.then ?_
    refine hK9 _ _ _ ?_
    refine WC.seq fun K10 hK10 => ?_
    refine WC.block ?_
    refine WC.seq fun K11 hK11 => ?_
    refine WC.region ?_
    refine WL.pure (v := vI (i : Int)) 10 rfl (Nat.le_of_ble_eq_true rfl) rfl rfl (by kernel_rfl) ?_
    refine WL.pure (v := vI (i : Int)) 5 rfl (Nat.le_of_ble_eq_true rfl) rfl rfl (by kernel_rfl) ?_
    refine WL.nil ?_
    refine WQ.then ?_
    refine hK11 _ _ _ ?_
    refine WC.seq fun K12 hK12 => ?_
    obtain ⟨gq, oq, rfl, hrow⟩ := hI (by omega)
    refine WC.region ?_
    refine WL.pure (v := .func (.func 30) #[] #[]) 11 rfl (Nat.le_of_ble_eq_true rfl) rfl rfl (by kernel_rfl) ?_
    refine WL.pure (v := .slice (some ⟨gq, oq, none⟩) q.length cq) 12 rfl (Nat.le_of_ble_eq_true rfl) rfl rfl (by kernel_rfl) ?_
    refine WL.pure (v := vI (i : Int)) 13 rfl (Nat.le_of_ble_eq_true rfl) rfl rfl (by kernel_rfl) ?_
    refine WL.pure (v := vP gq (oq + i * 3)) 14 rfl (Nat.le_of_ble_eq_true rfl) rfl rfl (x_idx (i) (oq + i * 3) rfl rfl rfl Try.underlying24 sz30 (by omega) (by omega) (by omega)) ?_
    refine WL.pure (v := .agg #[vI (qM q i), vI (qT q i), vI (qN q i)]) 15 rfl (Nat.le_of_ble_eq_true rfl) rfl rfl (x_loadS (cs := [vI (qM q i), vI (qT q i), vI (qN q i)]) rfl rfl Try.underlying30 rfl sz30 (HP.oldRange hH7 trivial (hrow i (by omega)))) ?_
    refine WL.call (f := 30) (args := #[.agg #[vI (qM q i), vI (qT q i), vI (qN q i)]]) 16 rfl (Nat.le_of_ble_eq_true rfl) rfl rfl (by kernel_rfl) ?_
    refine (hF _ (HP.below hH7) i (by omega)).mono ?_
    rintro e w13 ⟨rfl, hb14⟩
    refine ⟨_, rfl, ?_⟩
    have hH15 : HP Tr w _ [] := HP.call hH7 hb14
    refine WL.nil ?_
    refine WQ.then ?_
    refine hK12 _ _ _ ?_
    refine WC.sub (l' := [(0, .slice (some ⟨gq, oq, none⟩) q.length cq), (1, .func (.func 30) #[] #[]), (4, vI 0), (5, vI (i : Int)), (7, vI (q.length : Int)), (8, vI (i : Int)), (9, .bool true), (16, .bool false)]) ⟨rfl, rfl, rfl, rfl, rfl, rfl, rfl, rfl, trivial⟩ ?_
    refine WC.no rfl ?_
    refine WC.skip ?_
    refine WQ.inNormal ?_
    refine WQ.then ?_
    refine hK10 _ _ _ ?_
    refine WC.region ?_
    refine WL.pure (v := vI ((i + 1 : Nat) : Int)) 18 rfl (Nat.le_of_ble_eq_true rfl) rfl rfl (x_add (Z := ((i + 1 : Nat) : Int)) rfl rfl rfl (by omega) (by omega) (by omega)) ?_
    refine WL.pure (v := vI ((i + 1 : Nat) : Int)) 8 rfl (Nat.le_of_ble_eq_true rfl) rfl rfl (by kernel_rfl) ?_
    refine WL.nil ?_
    refine WQ.sub (l' := [(0, .slice (some ⟨gq, oq, none⟩) q.length cq), (1, .func (.func 30) #[] #[]), (4, vI 0), (7, vI (q.length : Int)), (8, vI ((i + 1 : Nat) : Int))]) ⟨rfl, rfl, rfl, rfl, rfl, trivial⟩ ?_
    refine WQ.then (hK5 _ _ _ (by omega) ⟨i + 1, rfl, rfl, by omega, hH15⟩)
  ·
    refine WL.pure (v := .bool false) 9 rfl (Nat.le_of_ble_eq_true rfl) rfl rfl (x_lss rfl rfl rfl (dF (hlt))) ?_
    refine WL.nil ?_
    refine WQ.then ?_
    refine hK8 _ _ _ ?_
    refine WC.seq fun K16 hK16 => ?_
    refine WC.no rfl ?_
    refine WC.exit ?_
    refine WQ.thenExit ?_
    refine WQ.thenExit ?_
    refine WQ.inExit ?_
    refine WQ.then ?_
    refine hK3 _ _ _ ?_
    refine WC.seq fun K17 hK17 => ?_
    refine WC.region ?_
    refine WL.pure (v := vI (-1)) 4 rfl (Nat.le_of_ble_eq_true rfl) rfl rfl (by kernel_rfl) ?_
    refine WL.nil ?_
    refine WQ.then ?_
    refine hK17 _ _ _ ?_
    refine WC.ret ?_
    refine WQ.ret1 4 rfl rfl ?_
    exact ⟨rfl, HP.below hH7⟩
set_option maxRecDepth 20000 in
set_option maxHeartbeats 4000000 in
theorem containsF1_any (pq : Option Addr) (cq : Nat) (q : List Rq) (w : World) (hI : InQ w pq q) (hq : q.length ≤ 1000) (hF : ∀ w2, Below w.heap.size w w2 → ∀ i, i < q.length → Calls Try.prog 30 #[.agg #[vI (qM q i), vI (qT q i), vI (qN q i)]] w2 fun e w3 => e = .returned (.bool false) ∧ Below w2.heap.size w2 w3) :
    Calls Try.prog 29 #[.slice pq q.length cq, .func (.func 30) #[] #[]] w fun e w' => e = .returned (.bool false) ∧ Below w.heap.size w w' := by
  refine calls_of Try.func29 rfl (m := 9) rfl [(0, .slice pq q.length cq), (1, .func (.func 30) #[] #[])] (Fr_enter [.slice pq q.length cq, .func (.func 30) #[] #[]] 9 (Nat.le_of_ble_eq_true rfl)) ?_
  have hH1 : HP Tr w w [] := HP.refl w
  refine WC.seq fun K2 hK2 => ?_
  refine WC.region ?_
  refine WL.pure (v := .bool false) 4 rfl (Nat.le_of_ble_eq_true rfl) rfl rfl (by kernel_rfl) ?_
  refine WL.nil ?_
  refine WQ.then ?_
  refine hK2 _ _ _ ?_
  refine WC.seq fun K3 hK3 => ?_
  refine WC.region ?_
  refine WL.pure (v := .slice pq q.length cq) 5 rfl (Nat.le_of_ble_eq_true rfl) rfl rfl (by kernel_rfl) ?_
  refine WL.pure (v := .func (.func 30) #[] #[]) 6 rfl (Nat.le_of_ble_eq_true rfl) rfl rfl (by kernel_rfl) ?_
  refine WL.call (f := 43) (args := #[.slice pq q.length cq, .func (.func 30) #[] #[]]) 7 rfl (Nat.le_of_ble_eq_true rfl) rfl rfl (by kernel_rfl) ?_
  refine (indexF1_any pq cq q _ (hI.below (HP.below hH1)) hq (fun w2 h2 i hi => hF w2 ((HP.refl w).call (HP.below hH1) |>.call h2).below i hi)).mono ?_
  rintro e w4 ⟨rfl, hb5⟩
  refine ⟨_, rfl, ?_⟩
  have hH6 : HP Tr w _ [] := HP.call hH1 hb5
  refine WL.pure (v := .bool false) 8 rfl (Nat.le_of_ble_eq_true rfl) rfl rfl (x_geq rfl rfl rfl (by decide)) ?_
  refine WL.pure (v := .bool false) 4 rfl (Nat.le_of_ble_eq_true rfl) rfl rfl (by kernel_rfl) ?_
  refine WL.nil ?_
  refine WQ.then ?_
  refine hK3 _ _ _ ?_
  refine WC.ret ?_
  refine WQ.ret1 4 rfl rfl ?_
  exact ⟨rfl, HP.below hH6⟩
set_option maxRecDepth 20000 in
set_option maxHeartbeats 4000000 in
theorem indexF2_any (b7 : Nat) (pq : Option Addr) (cq : Nat) (q : List Rq) (w : World) (hI : InQ w pq q) (hq : q.length ≤ 1000) (hF : ∀ w2, Below w.heap.size w w2 → ∀ i, i < q.length → Calls Try.prog 31 #[.agg #[vI (qM q i), vI (qT q i), vI (qN q i)], vP b7 0] w2 fun e w3 => e = .returned (.bool false) ∧ Below w2.heap.size w2 w3) :
    Calls Try.prog 43 #[.slice pq q.length cq, .func (.func 31) #[] #[vP b7 0]] w fun e w' => e = .returned (.int .i64 (-1)) ∧ Below w.heap.size w w' := by
  refine calls_of Try.func43 rfl (m := 19) rfl [(0, .slice pq q.length cq), (1, .func (.func 31) #[] #[vP b7 0])] (Fr_enter [.slice pq q.length cq, .func (.func 31) #[] #[vP b7 0]] 19 (Nat.le_of_ble_eq_true rfl)) ?_
  have hH1 : HP Tr w w [] := HP.refl w
  refine WC.seq fun K2 hK2 => ?_
  refine WC.region ?_
  refine WL.pure (v := vI 0) 4 rfl (Nat.le_of_ble_eq_true rfl) rfl rfl (by kernel_rfl) ?_
  refine WL.nil ?_
  refine WQ.then ?_
  refine hK2 _ _ _ ?_
  refine WC.seq fun K3 hK3 => ?_
  refine WC.seq fun K4 hK4 => ?_
  refine WC.region ?_
  refine WL.pure (v := .slice pq q.length cq) 6 rfl (Nat.le_of_ble_eq_true rfl) rfl rfl (by kernel_rfl) ?_
  refine WL.pure (v := vI (q.length : Int)) 7 rfl (Nat.le_of_ble_eq_true rfl) rfl rfl (by kernel_rfl) ?_
  refine WL.pure (v := vI 0) 8 rfl (Nat.le_of_ble_eq_true rfl) rfl rfl (by kernel_rfl) ?_
  refine WL.nil ?_
  refine WQ.then ?_
  refine hK4 _ _ _ ?_
  refine WC.block ?_
  refine WC.loop (fun kk0 ll0 ww0 => ∃ (i : Nat), ll0 = [(0, .slice pq q.length cq), (1, .func (.func 31) #[] #[vP b7 0]), (4, vI 0), (7, vI (q.length : Int)), (8, vI (i : Int))] ∧ kk0 = q.length - i ∧ (i ≤ q.length) ∧ HP Tr w ww0 []) (q.length) [(0, .slice pq q.length cq), (1, .func (.func 31) #[] #[vP b7 0]), (4, vI 0), (7, vI (q.length : Int)), (8, vI 0)] ⟨rfl, rfl, rfl, rfl, rfl, trivial⟩ ⟨0, rfl, rfl, Nat.zero_le _, hH1⟩ ?_
  rintro kk l w6 ⟨i, rfl, hkk, hi, hH7⟩ K5 hK5
  refine WC.seq fun K8 hK8 => ?_
  refine WC.region ?_
  by_cases hlt : (i : Int) < (q.length : Int)
  ·
    refine WL.pure (v := .bool true) 9 rfl (Nat.le_of_ble_eq_true rfl) rfl rfl (x_lss rfl rfl rfl (dT (hlt))) ?_
    refine WL.nil ?_
    refine WQ.then ?_
    refine hK8 _ _ _ ?_
    refine WC.seq fun K9 hK9 => ?_
    refine WC.yes rfl ?_
    refine WC.skip ?_
    refine WQ.then ?_
    refine hK9 _ _ _ ?_
    refine WC.seq fun K10 hK10 => ?_
    refine WC.block ?_
    refine WC.seq fun K11 hK11 => ?_
    refine WC.region ?_
    refine WL.pure (v := vI (i : Int)) 10 rfl (Nat.le_of_ble_eq_true rfl) rfl rfl (by kernel_rfl) ?_
    refine WL.pure (v := vI (i : Int)) 5 rfl (Nat.le_of_ble_eq_true rfl) rfl rfl (by kernel_rfl) ?_
    refine WL.nil ?_
    refine WQ.then ?_
    refine hK11 _ _ _ ?_
    refine WC.seq fun K12 hK12 => ?_
    obtain ⟨gq, oq, rfl, hrow⟩ := hI (by omega)
    refine WC.region ?_
    refine WL.pure (v := .func (.func 31) #[] #[vP b7 0]) 11 rfl (Nat.le_of_ble_eq_true rfl) rfl rfl (by kernel_rfl) ?_
    refine WL.pure (v := .slice (some ⟨gq, oq, none⟩) q.length cq) 12 rfl (Nat.le_of_ble_eq_true rfl) rfl rfl (by kernel_rfl) ?_
    refine WL.pure (v := vI (i : Int)) 13 rfl (Nat.le_of_ble_eq_true rfl) rfl rfl (by kernel_rfl) ?_
    refine WL.pure (v := vP gq (oq + i * 3)) 14 rfl (Nat.le_of_ble_eq_true rfl) rfl rfl (x_idx (i) (oq + i * 3) rfl rfl rfl Try.underlying24 sz30 (by omega) (by omega) (by omega)) ?_
    refine WL.pure (v := .agg #[vI (qM q i), vI (qT q i), vI (qN q i)]) 15 rfl (Nat.le_of_ble_eq_true rfl) rfl rfl (x_loadS (cs := [vI (qM q i), vI (qT q i), vI (qN q i)]) rfl rfl Try.underlying30 rfl sz30 (HP.oldRange hH7 trivial (hrow i (by omega)))) ?_
    refine WL.call (f := 31) (args := #[.agg #[vI (qM q i), vI (qT q i), vI (qN q i)], vP b7 0]) 16 rfl (Nat.le_of_ble_eq_true rfl) rfl rfl (by kernel_rfl) ?_
    refine (hF _ (HP.below hH7) i (by omega)).mono ?_
    rintro e w13 ⟨rfl, hb14⟩
    refine ⟨_, rfl, ?_⟩
    have hH15 : HP Tr w _ [] := HP.call hH7 hb14
    refine WL.nil ?_
    refine WQ.then ?_
    refine hK12 _ _ _ ?_
    refine WC.sub (l' := [(0, .slice (some ⟨gq, oq, none⟩) q.length cq), (1, .func (.func 31) #[] #[vP b7 0]), (4, vI 0), (5, vI (i : Int)), (7, vI (q.length : Int)), (8, vI (i : Int)), (9, .bool true), (16, .bool false)]) ⟨rfl, rfl, rfl, rfl, rfl, rfl, rfl, rfl, trivial⟩ ?_
    refine WC.no rfl ?_
    refine WC.skip ?_
    refine WQ.inNormal ?_
    refine WQ.then ?_
    refine hK10 _ _ _ ?_
    refine WC.region ?_
    refine WL.pure (v := vI ((i + 1 : Nat) : Int)) 18 rfl (Nat.le_of_ble_eq_true rfl) rfl rfl (x_add (Z := ((i + 1 : Nat) : Int)) rfl rfl rfl (by omega) (by omega) (by omega)) ?_
    refine WL.pure (v := vI ((i + 1 : Nat) : Int)) 8 rfl (Nat.le_of_ble_eq_true rfl) rfl rfl (by kernel_rfl) ?_
    refine WL.nil ?_
    refine WQ.sub (l' := [(0, .slice (some ⟨gq, oq, none⟩) q.length cq), (1, .func (.func 31) #[] #[vP b7 0]), (4, vI 0), (7, vI (q.length : Int)), (8, vI ((i + 1 : Nat) : Int))]) ⟨rfl, rfl, rfl, rfl, rfl, trivial⟩ ?_
    refine WQ.then (hK5 _ _ _ (by omega) ⟨i + 1, rfl, rfl, by omega, hH15⟩)
  ·
    refine WL.pure (v := .bool false) 9 rfl (Nat.le_of_ble_eq_true rfl) rfl rfl (x_lss rfl rfl rfl (dF (hlt))) ?_
    refine WL.nil ?_
    refine WQ.then ?_
    refine hK8 _ _ _ ?_
    refine WC.seq fun K16 hK16 => ?_
    refine WC.no rfl ?_
    refine WC.exit ?_
    refine WQ.thenExit ?_
    refine WQ.thenExit ?_
    refine WQ.inExit ?_
    refine WQ.then ?_
    refine hK3 _ _ _ ?_
    refine WC.seq fun K17 hK17 => ?_
    refine WC.region ?_
    refine WL.pure (v := vI (-1)) 4 rfl (Nat.le_of_ble_eq_true rfl) rfl rfl (by kernel_rfl) ?_
    refine WL.nil ?_
    refine WQ.then ?_
    refine hK17 _ _ _ ?_
    refine WC.ret ?_
    refine WQ.ret1 4 rfl rfl ?_
    exact ⟨rfl, HP.below hH7⟩
set_option maxRecDepth 20000 in
set_option maxHeartbeats 4000000 in
theorem containsF2_any (b7 : Nat) (pq : Option Addr) (cq : Nat) (q : List Rq) (w : World) (hI : InQ w pq q) (hq : q.length ≤ 1000) (hF : ∀ w2, Below w.heap.size w w2 → ∀ i, i < q.length → Calls Try.prog 31 #[.agg #[vI (qM q i), vI (qT q i), vI (qN q i)], vP b7 0] w2 fun e w3 => e = .returned (.bool false) ∧ Below w2.heap.size w2 w3) :
    Calls Try.prog 29 #[.slice pq q.length cq, .func (.func 31) #[] #[vP b7 0]] w fun e w' => e = .returned (.bool false) ∧ Below w.heap.size w w' := by
  refine calls_of Try.func29 rfl (m := 9) rfl [(0, .slice pq q.length cq), (1, .func (.func 31) #[] #[vP b7 0])] (Fr_enter [.slice pq q.length cq, .func (.func 31) #[] #[vP b7 0]] 9 (Nat.le_of_ble_eq_true rfl)) ?_
  have hH1 : HP Tr w w [] := HP.refl w
  refine WC.seq fun K2 hK2 => ?_
  refine WC.region ?_
  refine WL.pure (v := .bool false) 4 rfl (Nat.le_of_ble_eq_true rfl) rfl rfl (by kernel_rfl) ?_
  refine WL.nil ?_
  refine WQ.then ?_
  refine hK2 _ _ _ ?_
  refine WC.seq fun K3 hK3 => ?_
  refine WC.region ?_
  refine WL.pure (v := .slice pq q.length cq) 5 rfl (Nat.le_of_ble_eq_true rfl) rfl rfl (by kernel_rfl) ?_
  refine WL.pure (v := .func (.func 31) #[] #[vP b7 0]) 6 rfl (Nat.le_of_ble_eq_true rfl) rfl rfl (by kernel_rfl) ?_
  refine WL.call (f := 43) (args := #[.slice pq q.length cq, .func (.func 31) #[] #[vP b7 0]]) 7 rfl (Nat.le_of_ble_eq_true rfl) rfl rfl (by kernel_rfl) ?_
  refine (indexF2_any b7 pq cq q _ (hI.below (HP.below hH1)) hq (fun w2 h2 i hi => hF w2 ((HP.refl w).call (HP.below hH1) |>.call h2).below i hi)).mono ?_
  rintro e w4 ⟨rfl, hb5⟩
  refine ⟨_, rfl, ?_⟩
  have hH6 : HP Tr w _ [] := HP.call hH1 hb5
  refine WL.pure (v := .bool false) 8 rfl (Nat.le_of_ble_eq_true rfl) rfl rfl (x_geq rfl rfl rfl (by decide)) ?_
  refine WL.pure (v := .bool false) 4 rfl (Nat.le_of_ble_eq_true rfl) rfl rfl (by kernel_rfl) ?_
  refine WL.nil ?_
  refine WQ.then ?_
  refine hK3 _ _ _ ?_
  refine WC.ret ?_
  refine WQ.ret1 4 rfl rfl ?_
  exact ⟨rfl, HP.below hH6⟩
end Bs
end Go.Proofs.Yteckbfebemofmaa
