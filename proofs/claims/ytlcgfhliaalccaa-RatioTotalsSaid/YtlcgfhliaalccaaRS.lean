/- Lists of ratios in memory, and their sum, plain. -/
import Derived.Test.YtlcgfhliaalccaaRJ
import Derived.Deep.Slices
set_option linter.unusedVariables false
set_option linter.unusedSimpArgs false
namespace Go.Proofs.Ytlcgfhliaalccaa
open Go.RowKit Go.Sort Rt
namespace Rc

def allv (f g : Nat → Int) : Nat → Bool
  | 0 => true
  | k + 1 => allv f g k && val (f k) (g k)
def acc (f g : Nat → Int) : Nat → R3
  | 0 => ⟨0, 1, 0⟩
  | k + 1 => if (acc f g k).e = 0 then add (acc f g k).n (acc f g k).d (f k) (g k) else acc f g k
def tot (n : Nat) (f g : Nat → Int) : R3 := if n ≤ 20 then (if allv f g n then acc f g n else ⟨0, 0, 1⟩) else ⟨0, 0, 1⟩

theorem allv_t {f g : Nat → Int} : ∀ {n : Nat}, allv f g n = true → ∀ i, i < n → val (f i) (g i) = true
  | 0, _, i, hi => absurd hi (by omega)
  | n + 1, h, i, hi => by
    rw [allv, Bool.and_eq_true] at h
    by_cases c : i < n
    · exact allv_t h.1 i c
    · obtain rfl : i = n := by omega
      exact h.2
theorem allv_mk {f g : Nat → Int} : ∀ {n : Nat}, (∀ i, i < n → val (f i) (g i) = true) → allv f g n = true
  | 0, _ => rfl
  | n + 1, h => by rw [allv, allv_mk fun i hi => h i (by omega), h n (by omega)]; rfl
theorem tot_bad {f g : Nat → Int} {n k : Nat} (hk : k < n) (h : val (f k) (g k) = false) : tot n f g = ⟨0, 0, 1⟩ := by
  unfold tot
  split
  · rw [if_neg]
    intro ha
    rw [allv_t ha k hk] at h
    cases h
  · rfl
theorem tot_long {f g : Nat → Int} {n : Nat} (h : ¬ n ≤ 20) : tot n f g = ⟨0, 0, 1⟩ := by unfold tot; rw [if_neg h]
theorem add_err {n d m e : Int} (h : (add n d m e).e ≠ 0) : add n d m e = ⟨0, 0, (add n d m e).e⟩ := by
  unfold add at *
  split
  · rename_i g
    rw [if_pos g] at h
    rw [out_no h]
  · rfl
theorem acc_err {f g : Nat → Int} {k : Nat} (h : (acc f g k).e ≠ 0) : ∀ j, acc f g (k + j) = acc f g k
  | 0 => rfl
  | j + 1 => by
    have := acc_err h j
    rw [← Nat.add_assoc, acc, this, if_neg h]
theorem tot_stop {f g : Nat → Int} {n k : Nat} (h20 : n ≤ 20) (ha : allv f g n = true) (hk : k < n) (h0 : (acc f g k).e = 0) (h : (add (acc f g k).n (acc f g k).d (f k) (g k)).e ≠ 0) :
    tot n f g = ⟨0, 0, (add (acc f g k).n (acc f g k).d (f k) (g k)).e⟩ := by
  have e1 : acc f g (k + 1) = add (acc f g k).n (acc f g k).d (f k) (g k) := by rw [acc, if_pos h0]
  unfold tot
  rw [if_pos h20, if_pos ha, show n = (k + 1) + (n - (k + 1)) by omega, acc_err (by rw [e1]; exact h), e1]
  exact add_err h
theorem tot_ok {f g : Nat → Int} {n : Nat} (h20 : n ≤ 20) (ha : allv f g n = true) : tot n f g = acc f g n := by unfold tot; rw [if_pos h20, if_pos ha]

theorem add_block (a : Addr) (k : Nat) : (a.add k).block = a.block := by unfold Addr.add; split <;> rfl
theorem add_next (a : Addr) (k : Nat) : a.add (k + 1) = ⟨(a.add k).block, (a.add k).off + 1, none⟩ := by
  unfold Addr.add
  by_cases h : k = 0
  · subst h; simp
  · simp [h, Nat.add_assoc]
/-- a list of ratios in memory -/
structure Row (w : World) (p : Option Addr) (n cap : Nat) (f g : Nat → Int) : Prop where
  lt : ∀ a, p = some a → 0 < n → a.block < w.heap.size
  som : 0 < n → ∃ a, p = some a
  c0 : ∀ a i, p = some a → i < n → w.cell? (a.add (i * 2)) = some (.int .i64 (f i))
  c1 : ∀ a i, p = some a → i < n → w.cell? ⟨(a.add (i * 2)).block, (a.add (i * 2)).off + 1, none⟩ = some (.int .i64 (g i))
  hn : n ≤ cap
  hc : cap ≤ 9223372036854775807
theorem Row.below {w w' : World} {p : Option Addr} {n cap : Nat} {f g : Nat → Int} (h : Row w p n cap f g) {B : Nat} (hB : w.heap.size ≤ B) (hb : Below B w w') : Row w' p n cap f g :=
  ⟨fun a e hp => Nat.lt_of_lt_of_le (h.lt a e hp) hb.size, h.som,
   fun a i e hi => by rw [hb.cell (by rw [add_block]; exact Nat.lt_of_lt_of_le (h.lt a e (by omega)) hB)]; exact h.c0 a i e hi,
   fun a i e hi => by rw [hb.cell (by show (a.add (i * 2)).block < _; rw [add_block]; exact Nat.lt_of_lt_of_le (h.lt a e (by omega)) hB)]; exact h.c1 a i e hi, h.hn, h.hc⟩
end Rc
end Go.Proofs.Ytlcgfhliaalccaa
