/- Plain laws on what Smaller, Better, When and Cycle come to. -/
import Derived.Test.YthiogahpoebamaaO
set_option linter.unusedVariables false
set_option linter.unusedSimpArgs false
namespace Go.Proofs.Ythiogahpoebamaa
open Sup

theorem sm_spec (F n W : Int) : ∀ k : Nat, -1 ≤ sm F n W k ∧ sm F n W k < k ∧ (0 ≤ sm F n W k → lo F (sm F n W k) n ≤ W) ∧ ∀ j : Int, sm F n W k < j → j < k → W < lo F j n
  | 0 => by simp only [sm]; exact ⟨by omega, by omega, by omega, by omega⟩
  | k + 1 => by
    obtain ⟨h1, h2, h3, h4⟩ := sm_spec F n W k
    simp only [sm]
    split
    · rename_i h
      exact ⟨by omega, by omega, fun _ => h, fun j a b => by omega⟩
    · rename_i h
      refine ⟨h1, by omega, h3, fun j a b => ?_⟩
      by_cases e : j = k
      · subst e; omega
      · exact h4 j a (by omega)

theorem be_iff (F S G T : Int) : ∀ n : Nat, be F S G T n = true ↔ ∀ k : Nat, k < n → ah G T (k : Int) ≤ ah F S (k : Int)
  | 0 => by simp [be]
  | n + 1 => by
    rw [be, Bool.and_eq_true, be_iff F S G T n, decide_eq_true_iff]
    constructor
    · rintro ⟨a, b⟩ k hk
      by_cases e : k = n
      · subst e; exact b
      · exact a k (by omega)
    · intro h; exact ⟨fun k hk => h k (by omega), h n (by omega)⟩

theorem be_self (F S : Int) (n : Nat) : be F S F S n = true := (be_iff ..).2 fun k _ => Int.le_refl _

theorem ah_anti (F S t : Int) (hF : 0 < F) (h0 : 1 ≤ S) (h1 : S < F) (ht : 0 ≤ t) : ah F S t ≤ ah F (S - 1) t := by
  have a := Int.ediv_nonneg ht (b := F) (by omega)
  unfold ah
  rw [show F - (S - 1) = F - S + 1 by omega, Int.mul_add]
  omega
theorem be_less (F S : Int) (n : Nat) (hF : 0 < F) (h0 : 1 ≤ S) (h1 : S < F) : be F (S - 1) F S n = true :=
  (be_iff ..).2 fun k _ => ah_anti F S k hF h0 h1 (by omega)

theorem ah_shift (F S a t : Int) (hF : 0 < F) : ah F S (a * F + t) = a * (F - S) + ah F S t := by
  obtain ⟨b, q, -, -, rfl, hq0, hq1⟩ := div_mod F t hF
  rw [show a * F + (b * F + q) = (a + b) * F + q by rw [Int.add_mul]; omega, ah_eq F S _ _ hq0 hq1, ah_eq F S _ _ hq0 hq1, Int.add_mul]; omega

theorem be_far (F S G T : Int) (hF : 0 < F) (hG : 0 < G) (hS : 0 ≤ S) (hT : 0 ≤ T) (h : be F S G T (F * G + 1).toNat = true) (w : Int) (hw : 0 ≤ w) : ah G T w ≤ ah F S w := by
  have hp : 0 < F * G := Int.mul_pos hF hG
  have hall : ∀ k : Int, 0 ≤ k → k ≤ F * G → ah G T k ≤ ah F S k := by
    intro k h0 h1
    have := (be_iff ..).1 h k.toNat (by omega)
    rwa [show ((k.toNat : Nat) : Int) = k by omega] at this
  obtain ⟨q, r, eq, -, e, hr0, hr1⟩ := div_mod (F * G) w hp
  have hq : 0 ≤ q := by rw [← eq]; exact Int.ediv_nonneg hw (by omega)
  have h1 := hall r hr0 (by omega)
  have h2 := hall (F * G) (by omega) (by omega)
  have a1 : ah F S (F * G) = G * (F - S) := by
    have := ah_shift F S G 0 hF
    rw [ah_zero F S hF hS, Int.add_zero, Int.add_zero] at this
    rw [Int.mul_comm F G, this]
  have a2 : ah G T (F * G) = F * (G - T) := by
    have := ah_shift G T F 0 hG
    rw [ah_zero G T hG hT, Int.add_zero, Int.add_zero] at this
    rw [this]
  rw [a1, a2] at h2
  have h3 : q * (F * (G - T)) ≤ q * (G * (F - S)) := Int.mul_le_mul_of_nonneg_left h2 hq
  rw [e, show q * (F * G) + r = (q * G) * F + r by rw [Int.mul_comm F G, Int.mul_assoc], ah_shift F S _ _ hF,
    show (q * G) * F + r = (q * F) * G + r by rw [Int.mul_assoc, Int.mul_comm G F, Int.mul_assoc], ah_shift G T _ _ hG, Int.mul_assoc, Int.mul_assoc]
  omega

theorem wn_spec (F S a n : Int) (h0 : 0 ≤ S) (h1 : S < F) (hn : 1 ≤ n) (ha : 0 ≤ a) :
    a + 1 ≤ wn F S a n ∧ ah F S (wn F S a n) = ah F S a + n ∧ ah F S (wn F S a n - 1) = ah F S a + n - 1 ∧ wn F S a n - a ≤ lo F S n := by
  have hF : 0 < F := by omega
  have e : wn F S a n = pl F S (ah F S a + n) := by unfold wn; rw [if_neg (by omega)]
  have p := pl_spec F S (ah F S a + n) h0 h1
  have q := pl_wait F S a n h0 h1
  have l : lo F S n = pl F S n := by unfold lo; rw [if_neg (by omega)]
  rw [e, l]
  refine ⟨?_, p.1, p.2, by omega⟩
  by_cases c : a + 1 ≤ pl F S (ah F S a + n)
  · exact c
  · have := ah_mono F S (pl F S (ah F S a + n)) a hF h0 h1 (by omega)
    omega

theorem cyc_spec (F S n : Int) (h0 : 1 ≤ S) (h1 : S < F) (hn : 1 ≤ n) :
    1 ≤ lo F (F - S) n ∧ lo F (F - S) n - ah F S (S + lo F (F - S) n) = n ∧ lo F (F - S) n - 1 - ah F S (S + (lo F (F - S) n - 1)) = n - 1 := by
  have hF : 0 < F := by omega
  have l : lo F (F - S) n = pl F (F - S) n := by unfold lo; rw [if_neg (by omega)]
  have c := pc_pl F S n (by omega)
  have p := pc_spec F S (S + n) (by omega) h1
  rw [co_ah _ _ _ hF, co_ah _ _ _ hF] at p
  have q := pl_pos F (F - S) n (by omega) (by omega) hn
  rw [l, ← c]
  rw [show S + (pc F S (S + n) - S) = pc F S (S + n) by omega, show S + (pc F S (S + n) - S - 1) = pc F S (S + n) - 1 by omega]
  omega
end Go.Proofs.Ythiogahpoebamaa
