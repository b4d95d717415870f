/- A ratio's text, plainly. -/
import Derived.Test.YteeljnlepbnhkaaDoorProg
import Derived.Lib.ItoaNum
import Derived.Lib.AtoiTie
import Derived.Lib.ItoaMem
import Derived.Lib.IndexMore
import Derived.Lib.IndexLaws
set_option linter.unusedVariables false
set_option linter.unusedSimpArgs false
namespace Go.Proofs.YteeljnlepbnhkaaDoor
namespace Qa
open Go.Lib
def dB (d : Nat) : UInt8 := UInt8.ofNat (48 + d)
theorem dB_nat {d : Nat} (h : d < 10) : (dB d).toNat = 48 + d := by unfold dB; simp; omega
theorem digitVal_dB {d : Nat} (h : d < 10) : digitVal (dB d) = some d := by
  unfold digitVal; rw [dB_nat h, if_pos (by omega)]; congr 1; omega
theorem decFrom_app : ∀ (l1 l2 : List UInt8) (acc m : Nat), decFrom acc l1 = some m → decFrom acc (l1 ++ l2) = decFrom m l2
  | [], l2, acc, m, h => by simp only [decFrom, Option.some.injEq] at h; subst h; rfl
  | a :: t, l2, acc, m, h => by
    simp only [decFrom, List.cons_append] at h ⊢
    cases ha : digitVal a with
    | none => simp [ha] at h
    | some e => simp only [ha] at h ⊢; exact decFrom_app t l2 _ m h
theorem decFrom_digits : ∀ (k u : Nat), u < 10 ^ (k + 1) → decFrom 0 (decDigits u) = some u
  | 0, u, h => by rw [decDigits_one (by omega)]; simp only [decFrom]; rw [show UInt8.ofNat (48 + u) = dB u from rfl, digitVal_dB (by omega)]; simp
  | k + 1, u, h => by
    by_cases hu : u < 10
    · rw [decDigits_one hu]; simp only [decFrom]; rw [show UInt8.ofNat (48 + u) = dB u from rfl, digitVal_dB hu]; simp
    · rw [decDigits, dif_neg hu, decFrom_app _ _ _ _ (decFrom_digits k (u / 10) (by rw [Nat.pow_succ] at h; omega))]
      simp only [decFrom]
      rw [show UInt8.ofNat (48 + u % 10) = dB (u % 10) from rfl, digitVal_dB (Nat.mod_lt _ (by decide))]
      simp only [Option.some.injEq]; omega
theorem decFrom_any (u : Nat) : decFrom 0 (decDigits u) = some u := decFrom_digits u u (Nat.lt_of_lt_of_le (Nat.lt_pow_self (by decide)) (Nat.pow_le_pow_right (by decide) (Nat.le_succ u)))
theorem decDigits_ne (u : Nat) : decDigits u ≠ [] := fun h => by
  have := decDigits_length u
  rw [h] at this
  have := nDigits_pos u
  simp at *; omega
theorem decNat_any (u : Nat) : decNat (decDigits u) = some u := by
  unfold decNat
  cases h : (decDigits u).isEmpty with
  | true => exact absurd (List.isEmpty_iff.1 h) (decDigits_ne u)
  | false => exact decFrom_any u
theorem dec_digit (u : Nat) : ∀ b ∈ decDigits u, 48 ≤ b.toNat ∧ b.toNat ≤ 57 := fun b hb => by
  obtain ⟨k, hk⟩ := List.getElem?_of_mem hb
  obtain ⟨d, hd⟩ := digit_of_decFrom _ _ _ (decFrom_any u) k b hk
  have := digitVal_eq hd
  omega
theorem dec_len {u : Nat} (h : u ≤ 1000000000) : (decDigits u).length ≤ 10 := by
  rw [decDigits_length]
  rcases Nat.lt_or_ge u 10 with h1 | h1
  · rw [nDigits_small h1]; omega
  · have : ∀ k, k ≤ 9 → u < 10 ^ (k + 1) → nDigits u ≤ k + 1 := fun k => by
      induction k with
      | zero => intro _ h2; rw [nDigits_small (by simpa using h2)]; omega
      | succ k ih =>
        intro hk h2
        by_cases h3 : u < 10 ^ (k + 1)
        · have := ih (by omega) h3; omega
        · rw [nDigits_unique (k + 1) u (by omega) h2]; omega
    exact this 9 (by omega) (by omega)
theorem itoa_pos {n : Int} (h : 0 ≤ n) : itoa n = decDigits n.natAbs := by unfold itoa; rw [if_neg (by omega)]; congr 1; omega
theorem itoa_ne {n : Int} (h : n < 0) : itoa n = 45 :: decDigits n.natAbs := by unfold itoa; rw [if_pos h]
theorem itoa_len {n : Int} (h1 : -1000000000 ≤ n) (h2 : n ≤ 1000000000) : (itoa n).length ≤ 11 := by
  have := dec_len (u := n.natAbs) (by omega)
  rcases Int.lt_or_le n 0 with h | h
  · rw [itoa_ne h]; simp; omega
  · rw [itoa_pos h]; omega
theorem atoi_itoa (n : Int) : atoi (itoa n) = some n := by
  rcases Int.lt_or_le n 0 with h | h
  · rw [itoa_ne h]; unfold atoi; simp only [beq_self_eq_true, if_true]; rw [decNat_any]; simp; omega
  · rw [itoa_pos h]
    cases hd : decDigits n.natAbs with
    | nil => exact absurd hd (decDigits_ne _)
    | cons b r =>
      have hb := dec_digit n.natAbs b (by rw [hd]; exact List.mem_cons_self)
      unfold atoi
      have e1 : (b == 45) = false := by rw [beq_eq_false_iff_ne]; rintro rfl; revert hb; decide
      have e2 : (b == 43) = false := by rw [beq_eq_false_iff_ne]; rintro rfl; revert hb; decide
      simp only [e1, e2]
      rw [← hd, decNat_any]
      simp; omega
theorem atoiAll_itoa {n : Int} (h1 : -1000000000 ≤ n) (h2 : n ≤ 1000000000) : atoiAll (itoa n) = .ok n := by
  have := itoa_len h1 h2
  rw [atoiAll_short _ (by omega), atoi_itoa]; rfl
theorem itoa_no47 (n : Int) : ∀ b ∈ itoa n, b ≠ 47 := fun b hb => by
  rcases Int.lt_or_le n 0 with h | h
  · rw [itoa_ne h] at hb
    rcases List.mem_cons.1 hb with rfl | hb
    · decide
    · have := dec_digit _ b hb; rintro rfl; revert this; decide
  · rw [itoa_pos h] at hb
    have := dec_digit _ b hb; rintro rfl; revert this; decide
/-- a ratio's text -/
def txt (a b : Int) : List UInt8 := itoa a ++ (if b = 1 then [] else 47 :: itoa b)
theorem itoa_inj {a b : Int} (h : itoa a = itoa b) : a = b := by
  have h1 := atoi_itoa a
  rw [h, atoi_itoa b] at h1
  exact (Option.some.inj h1).symm
theorem split47 : ∀ {l1 l2 r1 r2 : List UInt8}, (∀ b ∈ l1, b ≠ 47) → (∀ b ∈ l2, b ≠ 47) → l1 ++ 47 :: r1 = l2 ++ 47 :: r2 → l1 = l2 ∧ r1 = r2
  | [], [], r1, r2, _, _, h => by simp at h; exact ⟨rfl, h⟩
  | [], b :: t, r1, r2, _, h2, h => by simp at h; exact absurd h.1.symm (h2 b (by simp))
  | a :: t, [], r1, r2, h1, _, h => by simp at h; exact absurd h.1 (h1 a (by simp))
  | a :: t, b :: t', r1, r2, h1, h2, h => by
    simp at h
    obtain ⟨e1, e2⟩ := split47 (fun x hx => h1 x (by simp [hx])) (fun x hx => h2 x (by simp [hx])) h.2
    exact ⟨by rw [h.1, e1], e2⟩
theorem txt_inj {a b c d : Int} (h : txt a b = txt c d) : a = c ∧ b = d := by
  unfold txt at h
  by_cases hb : b = 1 <;> by_cases hd : d = 1
  · simp [hb, hd] at h; exact ⟨itoa_inj h, by omega⟩
  · simp only [hb, hd, if_true, if_false, List.append_nil] at h
    exact absurd rfl (itoa_no47 a 47 (by rw [h]; simp))
  · simp only [hb, hd, if_true, if_false, List.append_nil] at h
    exact absurd rfl (itoa_no47 c 47 (by rw [← h]; simp))
  · simp only [hb, hd, if_false] at h
    obtain ⟨e1, e2⟩ := split47 (itoa_no47 a) (itoa_no47 c) h
    exact ⟨itoa_inj e1, itoa_inj e2⟩
/-! Cutting at the first '/'. -/
theorem index_no : ∀ {l : List UInt8}, (∀ b ∈ l, b ≠ 47) → index l [47] = -1
  | [], _ => rfl
  | a :: t, h => by
    have ha : ([47] : List UInt8).isPrefixOf (a :: t) = false := by simp [List.isPrefixOf]; exact fun e => h a (by simp) e.symm
    unfold index
    rw [ha, index_no (l := t) fun b hb => h b (by simp [hb])]
    rfl
theorem index_at : ∀ {l r : List UInt8}, (∀ b ∈ l, b ≠ 47) → index (l ++ 47 :: r) [47] = l.length
  | [], r, _ => by unfold index; simp [List.isPrefixOf]
  | a :: t, r, h => by
    have ha : ([47] : List UInt8).isPrefixOf (a :: (t ++ 47 :: r)) = false := by simp [List.isPrefixOf]; exact fun e => h a (by simp) e.symm
    show index (a :: (t ++ 47 :: r)) [47] = _
    unfold index
    rw [ha, index_at (l := t) fun b hb => h b (by simp [hb])]
    have : ((t.length : Int) == -1) = false := by rw [beq_eq_false_iff_ne]; omega
    simp [this]
theorem cut_no {l : List UInt8} (h : ∀ b ∈ l, b ≠ 47) : cut l [47] = (l, [], false) := by unfold cut; rw [index_no h]; rfl
theorem cut_at {l r : List UInt8} (h : ∀ b ∈ l, b ≠ 47) : cut (l ++ 47 :: r) [47] = (l, r, true) := by
  unfold cut
  rw [index_at h, if_pos (by omega)]
  simp
theorem cut_txt (a b : Int) : cut (txt a b) [47] = if b = 1 then (itoa a, [], false) else (itoa a, itoa b, true) := by
  unfold txt
  by_cases hb : b = 1
  · simp only [hb, if_true, List.append_nil]; exact cut_no (itoa_no47 a)
  · simp only [hb, if_false]; exact cut_at (itoa_no47 a)
/-! The reference's digits. -/
def dgt (l : List UInt8) : Int := if l.length < 1 ∨ 10 < l.length then -1 else match decFrom 0 l with | some n => (n : Int) | none => -1
theorem dgt_dec {u : Nat} (h : u ≤ 1000000000) : dgt (decDigits u) = u := by
  have h1 := dec_len h
  have h2 : 1 ≤ (decDigits u).length := by rw [decDigits_length]; exact nDigits_pos u
  unfold dgt
  rw [if_neg (by omega), decFrom_any]
theorem dgt_bd (l : List UInt8) : -1 ≤ dgt l ∧ dgt l ≤ 9999999999 := by
  unfold dgt
  split
  · omega
  · rename_i h
    cases hd : decFrom 0 l with
    | none => simp
    | some n =>
      have h1 := decFrom_lt l 0 n hd
      have h2 : (10 : Nat) ^ l.length ≤ 10 ^ 10 := Nat.pow_le_pow_right (by decide) (by omega)
      have h3 : (10 : Nat) ^ 10 = 10000000000 := by decide
      simp only
      omega
end Qa
end Go.Proofs.YteeljnlepbnhkaaDoor
