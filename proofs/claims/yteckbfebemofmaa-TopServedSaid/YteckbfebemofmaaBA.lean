/- The bus plainly: who owns a tick, when a request ends. -/
import Derived.ProofKit
set_option linter.unusedVariables false
set_option linter.unusedSimpArgs false
namespace Go.Proofs.Yteckbfebemofmaa
namespace Bs
/-- the owners of a period's ticks -/
def owl (o sp : Nat → Int) : Nat → List Int
  | 0 => []
  | i + 1 => owl o sp i ++ List.replicate (sp i).toNat (o i)
/-- the ticks of an owner -/
def posI (l : List Int) (m : Int) : List Int := ((List.range l.length).filter fun i => decide (l.getD i 0 = m)).map fun i : Nat => (i : Int)
theorem posI_nil (m : Int) : posI [] m = [] := rfl
theorem posI_snoc (l : List Int) (c m : Int) : posI (l ++ [c]) m = posI l m ++ (if c = m then [(l.length : Int)] else []) := by
  unfold posI
  rw [List.length_append, List.length_singleton, List.range_succ, List.filter_append, List.map_append]
  congr 1
  · congr 1
    refine List.filter_congr fun i hi => ?_
    have := List.mem_range.1 hi
    rw [List.getD_eq_getElem?_getD, List.getElem?_append_left this, ← List.getD_eq_getElem?_getD]
  · have e : (l ++ [c]).getD l.length 0 = c := by rw [List.getD_eq_getElem?_getD, List.getElem?_append_right (Nat.le_refl _), Nat.sub_self]; rfl
    by_cases h : c = m
    · rw [if_pos h]; simp [e, h]
    · rw [if_neg h]; simp [e, h]
theorem posI_mem {l : List Int} {m x : Int} (h : x ∈ posI l m) : 0 ≤ x ∧ x < l.length := by
  unfold posI at h
  obtain ⟨i, hi, rfl⟩ := List.mem_map.1 h
  have := List.mem_range.1 (List.mem_filter.1 hi).1
  omega
theorem posI_in {l : List Int} {m : Int} {i : Nat} (hi : i < l.length) (h : l.getD i 0 = m) : (i : Int) ∈ posI l m :=
  List.mem_map.2 ⟨i, List.mem_filter.2 ⟨List.mem_range.2 hi, decide_eq_true h⟩, rfl⟩
theorem posI_at {l : List Int} {m x : Int} (h : x ∈ posI l m) : ∃ i : Nat, x = (i : Int) ∧ i < l.length ∧ l.getD i 0 = m := by
  unfold posI at h
  obtain ⟨i, hi, rfl⟩ := List.mem_map.1 h
  exact ⟨i, rfl, List.mem_range.1 (List.mem_filter.1 hi).1, of_decide_eq_true (List.mem_filter.1 hi).2⟩
theorem posI_sorted (l : List Int) (m : Int) : (posI l m).Pairwise fun a b => a < b := by
  unfold posI
  rw [List.pairwise_map]
  refine List.Pairwise.imp (R := fun a b : Nat => a < b) (fun h => by omega) (List.Pairwise.filter _ List.pairwise_lt_range)
theorem posI_len (l : List Int) (m : Int) : (posI l m).length ≤ l.length := by
  unfold posI
  rw [List.length_map]
  exact Nat.le_trans (List.length_filter_le _ _) (by simp)
/-- how many are smaller -/
def lb (xs : List Int) (y : Int) : Nat := xs.countP fun x => decide (x < y)
theorem lb_le (xs : List Int) (y : Int) : lb xs y ≤ xs.length := List.countP_le_length
theorem lb_of {xs : List Int} {y : Int} {k : Nat} (hk : k ≤ xs.length) (h1 : ∀ i, i < k → xs.getD i 0 < y) (h2 : ∀ i, k ≤ i → i < xs.length → y ≤ xs.getD i 0) : k = lb xs y := by
  unfold lb
  rw [← List.take_append_drop k xs, List.countP_append]
  have g : ∀ i, (h : i < xs.length) → xs.getD i 0 = xs[i] := fun i h => by simp [List.getD_eq_getElem?_getD, h]
  have e1 : (xs.take k).countP (fun x => decide (x < y)) = (xs.take k).length := List.countP_eq_length.2 fun x hx => by
    obtain ⟨i, hi, rfl⟩ := List.mem_iff_getElem.1 hx
    rw [List.length_take] at hi
    rw [List.getElem_take]
    have := h1 i (by omega)
    rw [g i (by omega)] at this
    exact decide_eq_true this
  have e2 : (xs.drop k).countP (fun x => decide (x < y)) = 0 := List.countP_eq_zero.2 fun x hx => by
    obtain ⟨i, hi, rfl⟩ := List.mem_iff_getElem.1 hx
    rw [List.length_drop] at hi
    rw [List.getElem_drop]
    have := h2 (k + i) (by omega) (by omega)
    rw [g (k + i) (by omega)] at this
    simp; omega
  rw [e1, e2, List.length_take]; omega
/-- how many ticks of a master lie ahead of a moment; when so many of them behind it are over -/
def befV (F : Int) (xs : List Int) (x : Int) : Int := x / F * (xs.length : Int) + (lb xs (x % F) : Int)
def endV (F : Int) (xs : List Int) (x n : Int) : Int := (befV F xs x + n - 1) / (xs.length : Int) * F + xs.getD ((befV F xs x + n - 1) % (xs.length : Int)).toNat 0 + 1
theorem end_turn {F : Int} {xs : List Int} {x n q : Int} (hF : 1 ≤ F) (hL : 0 < xs.length) : endV F xs (x + q * F) n = endV F xs x n + q * F := by
  have e1 : (x + q * F) / F = x / F + q := Int.add_mul_ediv_right x q (by omega)
  have e2 : (x + q * F) % F = x % F := Int.add_mul_emod_self_right ..
  have e3 : befV F xs (x + q * F) = befV F xs x + q * (xs.length : Int) := by
    unfold befV; rw [e1, e2, Int.add_mul]; omega
  unfold endV
  rw [e3, show befV F xs x + q * (xs.length : Int) + n - 1 = (befV F xs x + n - 1) + q * (xs.length : Int) by omega, Int.add_mul_ediv_right _ _ (by omega), Int.add_mul_emod_self_right, Int.add_mul]
  omega
theorem end_mod {F : Int} {xs : List Int} {x n : Int} (hF : 1 ≤ F) (hL : 0 < xs.length) : endV F xs x n - x = endV F xs (x % F) n - x % F := by
  have h := Int.emod_add_mul_ediv x F
  have h2 : x = x % F + x / F * F := by rw [Int.mul_comm (x / F)]; omega
  have h3 := end_turn (x := x % F) (n := n) (q := x / F) hF hL
  rw [← h2] at h3
  omega
theorem mulB {a b A B : Int} (h0 : 0 ≤ a) (h1 : a ≤ A) (h2 : 0 ≤ b) (h3 : b ≤ B) : 0 ≤ a * b ∧ a * b ≤ A * B :=
  ⟨Int.mul_nonneg h0 h2, Int.mul_le_mul h1 h3 h2 (Int.le_trans h0 h1)⟩
theorem divB {m F A : Int} (h0 : 0 ≤ m) (h1 : m ≤ A) (hF : 1 ≤ F) : 0 ≤ m / F ∧ m / F ≤ A :=
  ⟨Int.ediv_nonneg h0 (by omega), Int.le_trans (Int.ediv_le_self F h0) h1⟩
theorem bef_bd {F : Int} {xs : List Int} {x : Int} (hF : 1 ≤ F) (hl : xs.length ≤ 400) (h0 : 0 ≤ x) (h1 : x ≤ 10000000) : 0 ≤ befV F xs x ∧ befV F xs x ≤ 4000000400 := by
  obtain ⟨d1, d2⟩ := divB h0 h1 hF
  obtain ⟨e1, e2⟩ := mulB d1 d2 (show (0 : Int) ≤ (xs.length : Int) by omega) (show (xs.length : Int) ≤ 400 by omega)
  have := lb_le xs (x % F)
  unfold befV; omega
theorem xs_bd {l : List Int} {m : Int} {i : Nat} (hi : i < (posI l m).length) : 0 ≤ (posI l m).getD i 0 ∧ (posI l m).getD i 0 < l.length := by
  have e : (posI l m).getD i 0 = (posI l m)[i] := by simp [List.getD_eq_getElem?_getD, hi]
  rw [e]; exact posI_mem (List.getElem_mem _)
theorem end_bd {l : List Int} {m x n : Int} (hF : 1 ≤ l.length) (hl : l.length ≤ 400) (hL : 0 < (posI l m).length) (h0 : 0 ≤ x) (h1 : x ≤ 10000000) (hn0 : 1 ≤ n) (hn1 : n ≤ 100) : 1 ≤ endV (l.length : Int) (posI l m) x n ∧ endV (l.length : Int) (posI l m) x n ≤ 1610000000000 := by
  have hp := posI_len l m
  have b1 := bef_bd (F := (l.length : Int)) (xs := posI l m) (x := x) (by omega) (by omega) h0 h1
  unfold endV
  generalize befV (l.length : Int) (posI l m) x = b at b1
  obtain ⟨d1, d2⟩ := divB (m := b + n - 1) (F := ((posI l m).length : Int)) (A := 4000000500) (by omega) (by omega) (by omega)
  obtain ⟨e1, e2⟩ := mulB d1 d2 (show (0 : Int) ≤ (l.length : Int) by omega) (show (l.length : Int) ≤ 400 by omega)
  have m1 := Int.emod_nonneg (b + n - 1) (show ((posI l m).length : Int) ≠ 0 by omega)
  have m2 := Int.emod_lt_of_pos (b + n - 1) (show (0 : Int) < ((posI l m).length : Int) by omega)
  have := xs_bd (l := l) (m := m) (i := ((b + n - 1) % ((posI l m).length : Int)).toNat) (by omega)
  omega
theorem owl_len {o sp : Nat → Int} : ∀ N, (∀ i, i < N → 1 ≤ sp i ∧ sp i ≤ 50) → N ≤ (owl o sp N).length ∧ (owl o sp N).length ≤ N * 50
  | 0, _ => ⟨Nat.le_refl _, Nat.le_refl _⟩
  | N + 1, h => by
    have h1 := owl_len (o := o) N fun i hi => h i (by omega)
    have h2 := h N (by omega)
    unfold owl
    rw [List.length_append, List.length_replicate]
    omega
theorem rep_succ (k : Nat) (c : Int) : List.replicate (k + 1) c = List.replicate k c ++ [c] := by rw [List.replicate_succ']
end Bs
end Go.Proofs.Yteckbfebemofmaa
