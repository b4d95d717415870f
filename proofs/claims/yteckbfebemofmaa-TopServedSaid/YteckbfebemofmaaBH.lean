/- Plain: sorting a row by insertion, and merging two sorted parts of it in place. -/
import Derived.Test.YteckbfebemofmaaBG
set_option linter.unusedVariables false
set_option linter.unusedSimpArgs false
namespace Go.Proofs.Yteckbfebemofmaa
open Go.RowKit Fw
namespace Bs
/-- y is x, turned about within [a, b) -/
def Pm (a b : Nat) (x y : Nat → Int) : Prop := ∃ σ τ : Nat → Nat, (∀ i, σ (τ i) = i) ∧ (∀ i, τ (σ i) = i) ∧ (∀ i, y i = x (σ i)) ∧ ∀ i, ¬(a ≤ i ∧ i < b) → σ i = i
theorem Pm.refl (a b : Nat) (x : Nat → Int) : Pm a b x x := ⟨id, id, fun _ => rfl, fun _ => rfl, fun _ => rfl, fun _ _ => rfl⟩
theorem Pm.trans {a b : Nat} {x y z : Nat → Int} (h : Pm a b x y) (h2 : Pm a b y z) : Pm a b x z := by
  obtain ⟨s, t, h1, h2', h3, h4⟩ := h
  obtain ⟨s2, t2, k1, k2, k3, k4⟩ := h2
  exact ⟨fun i => s (s2 i), fun i => t2 (t i), fun i => by show s (s2 (t2 (t i))) = i; rw [k1, h1], fun i => by show t2 (t (s (s2 i))) = i; rw [h2', k2], fun i => by rw [k3, h3], fun i hi => by show s (s2 i) = i; rw [k4 i hi, h4 i hi]⟩
theorem Pm.mono {a b a' b' : Nat} {x y : Nat → Int} (h : Pm a b x y) (ha : a' ≤ a) (hb : b ≤ b') : Pm a' b' x y := by
  obtain ⟨s, t, h1, h2, h3, h4⟩ := h
  exact ⟨s, t, h1, h2, h3, fun i hi => h4 i (fun q => hi ⟨by omega, by omega⟩)⟩
theorem Pm.eq {a b : Nat} {x y z : Nat → Int} (h : Pm a b x y) (e : ∀ p, z p = y p) : Pm a b x z := by
  rw [show z = y from funext e]; exact h
def swp (i j k : Nat) : Nat := if k = j then i else if k = i then j else k
theorem swp_swp (i j k : Nat) : swp i j (swp i j k) = k := by
  unfold swp
  by_cases h : k = j
  · subst h
    by_cases h2 : i = k
    · subst h2; simp
    · simp [h2]
  · by_cases h2 : k = i
    · subst h2; simp [h]
    · simp [h, h2]
theorem upI2 (x : Nat → Int) (i j k : Nat) : upI (upI x i (x j)) j (x i) k = x (swp i j k) := by
  unfold upI swp
  split
  · rfl
  · split <;> rfl
theorem Pm.swap {a b i j : Nat} {x : Nat → Int} (hi : a ≤ i ∧ i < b) (hj : a ≤ j ∧ j < b) : Pm a b x (upI (upI x i (x j)) j (x i)) :=
  ⟨swp i j, swp i j, swp_swp i j, swp_swp i j, fun k => upI2 x i j k, fun k hk => by
    unfold swp
    rw [if_neg (by omega), if_neg (by omega)]⟩
theorem Pm.out {a b : Nat} {x y : Nat → Int} (h : Pm a b x y) {i : Nat} (hi : ¬(a ≤ i ∧ i < b)) : y i = x i := by
  obtain ⟨s, t, h1, h2, h3, h4⟩ := h
  rw [h3, h4 i hi]
theorem Pm.src {a b : Nat} {x y : Nat → Int} (h : Pm a b x y) {i : Nat} (hi : a ≤ i ∧ i < b) : ∃ j, (a ≤ j ∧ j < b) ∧ y i = x j := by
  obtain ⟨s, t, h1, h2, h3, h4⟩ := h
  refine ⟨s i, Classical.byContradiction fun q => ?_, h3 i⟩
  have e := h4 _ q
  have e2 : s i = i := by
    have := h2 (s i)
    rw [e, h2] at this
    exact this.symm
  rw [e2] at q; exact q hi
theorem Pm.bd {a b N n : Nat} {x y : Nat → Int} (h : Pm a b x y) (hb : b ≤ N) (hx : ∀ i, i < N → 0 ≤ x i ∧ x i < (n : Int)) : ∀ i, i < N → 0 ≤ y i ∧ y i < (n : Int) := fun i hi => by
  by_cases q : a ≤ i ∧ i < b
  · obtain ⟨j, hj, e⟩ := h.src q
    rw [e]; exact hx j (by omega)
  · rw [h.out q]; exact hx i hi
/-- in order by a key -/
def Sd (κ : Int → Int) (a b : Nat) (x : Nat → Int) : Prop := ∀ i j, a ≤ i → i ≤ j → j < b → κ (x i) ≤ κ (x j)
theorem Sd.one {κ : Int → Int} {a b : Nat} {x : Nat → Int} (h : b ≤ a + 1) : Sd κ a b x := fun i j h1 h2 h3 => by
  rw [show i = j by omega]; exact Int.le_refl _
theorem Sd.eq {κ : Int → Int} {a b : Nat} {x y : Nat → Int} (h : Sd κ a b x) (e : ∀ i, a ≤ i → i < b → y i = x i) : Sd κ a b y := fun i j h1 h2 h3 => by
  rw [e i h1 (by omega), e j (by omega) h3]; exact h i j h1 h2 h3
/-- in order up to i, but for what stands at j, which is too far up -/
def Sx (κ : Int → Int) (a i j : Nat) (x : Nat → Int) : Prop := ∀ p q, a ≤ p → p < q → q ≤ i → q ≠ j → κ (x p) ≤ κ (x q)
theorem Sx.start {κ : Int → Int} {a i : Nat} {x : Nat → Int} (h : Sd κ a i x) : Sx κ a i i x := fun p q h1 h2 h3 h4 => h p q h1 (by omega) (by omega)
theorem Sx.last {κ : Int → Int} {a i j : Nat} {x : Nat → Int} (h : Sx κ a i j x) (hj : ¬ a < j) : Sd κ a (i + 1) x := fun p q h1 h2 h3 => by
  by_cases e : p = q
  · rw [e]; exact Int.le_refl _
  · exact h p q h1 (by omega) (by omega) (by omega)
theorem Sx.done {κ : Int → Int} {a i j : Nat} {x : Nat → Int} (h : Sx κ a i j x) (hj : a < j) (hji : j ≤ i) (hn : ¬ κ (x j) < κ (x (j - 1))) : Sd κ a (i + 1) x := fun p q h1 h2 h3 => by
  by_cases e : p = q
  · rw [e]; exact Int.le_refl _
  · by_cases e2 : q = j
    · subst e2
      by_cases e3 : p = q - 1
      · rw [e3]; omega
      · have := h p (q - 1) h1 (by omega) (by omega) (by omega)
        omega
    · exact h p q h1 (by omega) (by omega) e2
theorem Sx.step {κ : Int → Int} {a i j : Nat} {x : Nat → Int} (h : Sx κ a i j x) (hj : a < j) (hji : j ≤ i) (hn : κ (x j) < κ (x (j - 1))) : Sx κ a i (j - 1) (upI (upI x j (x (j - 1))) (j - 1) (x j)) := fun p q h1 h2 h3 h4 => by
  rw [upI2, upI2]
  unfold swp
  by_cases e : q = j
  · subst e
    rw [if_neg (show q ≠ q - 1 by omega), if_pos rfl]
    by_cases e2 : p = q - 1
    · rw [if_pos e2]; omega
    · rw [if_neg e2, if_neg (by omega)]; exact h p (q - 1) h1 (by omega) (by omega) (by omega)
  · rw [if_neg h4, if_neg e]
    by_cases e2 : p = j - 1
    · rw [if_pos e2]; exact h j q (by omega) (by omega) h3 e
    · rw [if_neg e2]
      by_cases e3 : p = j
      · rw [if_pos e3]; exact h (j - 1) q (by omega) (by omega) h3 e
      · rw [if_neg e3]; exact h p q h1 h2 h3 e
/-- two parts of n of a row, each put into the other's place -/
def swr (a b n : Nat) (x : Nat → Int) (p : Nat) : Int := if a ≤ p ∧ p < a + n then x (p - a + b) else if b ≤ p ∧ p < b + n then x (p - b + a) else x p
theorem swr_zero (a b : Nat) (x : Nat → Int) (p : Nat) : swr a b 0 x p = x p := by
  unfold swr; rw [if_neg (by omega), if_neg (by omega)]
theorem swr_step {a b n : Nat} {x y : Nat → Int} (h : a + n < b) (e : ∀ p, y p = swr a b n x p) (p : Nat) : upI (upI y (a + n) (y (b + n))) (b + n) (y (a + n)) p = swr a b (n + 1) x p := by
  rw [upI2, e]
  unfold swp swr
  by_cases h1 : p = b + n
  · subst h1
    rw [if_pos rfl, if_neg (by omega), if_neg (by omega), if_neg (by omega), if_pos (by omega)]
    congr 1; omega
  · rw [if_neg h1]
    by_cases h2 : p = a + n
    · subst h2
      rw [if_pos rfl, if_neg (by omega), if_neg (by omega), if_pos (by omega)]
      congr 1; omega
    · rw [if_neg h2]
      by_cases h3 : a ≤ p ∧ p < a + n
      · rw [if_pos h3, if_pos (by omega)]
      · rw [if_neg h3, if_neg (show ¬(a ≤ p ∧ p < a + (n + 1)) by omega)]
        by_cases h4 : b ≤ p ∧ p < b + n
        · rw [if_pos h4, if_pos (by omega)]
        · rw [if_neg h4, if_neg (by omega)]
/-- the parts [a, m) and [m, b) in the other order -/
def rot (a m b : Nat) (x : Nat → Int) (p : Nat) : Int := if a ≤ p ∧ p < a + (b - m) then x (p + (m - a)) else if a + (b - m) ≤ p ∧ p < b then x (p - (b - m)) else x p
theorem rot_gt {i j m : Nat} {x y : Nat → Int} (hj : j < i) (hi : i ≤ m) (e : ∀ p, y p = swr (m - i) m j x p) (p : Nat) : rot (m - (i - j)) m (m + j) y p = rot (m - i) m (m + j) x p := by
  unfold rot
  rw [show m + j - m = j by omega]
  by_cases h1 : m - i ≤ p ∧ p < m - i + j
  · rw [if_neg (by omega), if_neg (by omega), if_pos h1, e]; unfold swr; rw [if_pos h1]; congr 1; omega
  · rw [if_neg h1]
    by_cases h2 : m - (i - j) ≤ p ∧ p < m - (i - j) + j
    · rw [if_pos h2, if_pos (by omega), e]; unfold swr; rw [if_neg (by omega), if_pos (by omega)]; congr 1; omega
    · rw [if_neg h2]
      by_cases h3 : m - (i - j) + j ≤ p ∧ p < m + j
      · rw [if_pos h3, if_pos (by omega), e]; unfold swr; rw [if_neg (by omega), if_neg (by omega)]
      · rw [if_neg h3, if_neg (by omega), e]; unfold swr; rw [if_neg (by omega), if_neg (by omega)]
theorem rot_lt {i j m : Nat} {x y : Nat → Int} (hj : i < j) (hi : i ≤ m) (e : ∀ p, y p = swr (m - i) (m + j - i) i x p) (p : Nat) : rot (m - i) m (m + (j - i)) y p = rot (m - i) m (m + j) x p := by
  unfold rot
  rw [show m + j - m = j by omega, show m + (j - i) - m = j - i by omega]
  by_cases h1 : m - i ≤ p ∧ p < m - i + (j - i)
  · rw [if_pos h1, if_pos (by omega), e]; unfold swr; rw [if_neg (by omega)]
    by_cases h2 : m + j - i ≤ p + (m - (m - i)) ∧ p + (m - (m - i)) < m + j - i + i
    · exfalso; omega
    · rw [if_neg h2]
  · rw [if_neg h1]
    by_cases h2 : m - i + (j - i) ≤ p ∧ p < m + (j - i)
    · rw [if_pos h2, e]; unfold swr
      by_cases h3 : p < m - i + j
      · rw [if_pos (by omega), if_pos (by omega)]; congr 1; omega
      · exfalso; omega
    · rw [if_neg h2, e]; unfold swr
      by_cases h3 : m + j - i ≤ p ∧ p < m + j - i + i
      · rw [if_neg (by omega), if_pos h3, if_neg (by omega), if_pos (by omega)]; congr 1; omega
      · rw [if_neg (by omega), if_neg h3, if_neg (by omega), if_neg (by omega)]
theorem rot_eq {i m : Nat} {x : Nat → Int} (hi : i ≤ m) (p : Nat) : swr (m - i) m i x p = rot (m - i) m (m + i) x p := by
  unfold rot swr
  rw [show m + i - m = i by omega]
  by_cases h1 : m - i ≤ p ∧ p < m - i + i
  · rw [if_pos h1, if_pos h1]; congr 1; omega
  · rw [if_neg h1, if_neg h1]
    by_cases h2 : m ≤ p ∧ p < m + i
    · rw [if_pos h2, if_pos (by omega)]; congr 1; omega
    · rw [if_neg h2, if_neg (by omega)]
/-- one, put behind those that are less -/
theorem mrg_up {κ : Int → Int} {a b i : Nat} {x y : Nat → Int} (hs : Sd κ (a + 1) b x) (hi : a < i) (hib : i ≤ b) (h1 : ∀ p, a < p → p < i → κ (x p) ≤ κ (x a)) (h2 : ∀ p, i ≤ p → p < b → κ (x a) ≤ κ (x p))
    (e1 : ∀ p, a ≤ p → p < i - 1 → y p = x (p + 1)) (e2 : y (i - 1) = x a) (e3 : ∀ p, i ≤ p → y p = x p) : Sd κ a b y := fun p q g1 g2 g3 => by
  by_cases c1 : p < i - 1
  · rw [e1 p g1 c1]
    by_cases c2 : q < i - 1
    · rw [e1 q (by omega) c2]; exact hs _ _ (by omega) (by omega) (by omega)
    · by_cases c3 : q = i - 1
      · rw [c3, e2]; exact h1 _ (by omega) (by omega)
      · rw [e3 q (by omega)]; exact hs _ _ (by omega) (by omega) g3
  · by_cases c2 : p = i - 1
    · rw [c2, e2]
      by_cases c3 : q = i - 1
      · rw [c3, e2]; exact Int.le_refl _
      · rw [e3 q (by omega)]; exact h2 _ (by omega) g3
    · rw [e3 p (by omega), e3 q (by omega)]; exact hs _ _ (by omega) g2 g3
/-- one, put ahead of those that are greater -/
theorem mrg_down {κ : Int → Int} {a m i : Nat} {x y : Nat → Int} (hs : Sd κ a m x) (hi : a ≤ i) (him : i ≤ m) (h1 : ∀ p, a ≤ p → p < i → κ (x p) ≤ κ (x m)) (h2 : ∀ p, i ≤ p → p < m → κ (x m) ≤ κ (x p))
    (e1 : ∀ p, i < p → p ≤ m → y p = x (p - 1)) (e2 : y i = x m) (e3 : ∀ p, p < i → y p = x p) : Sd κ a (m + 1) y := fun p q g1 g2 g3 => by
  by_cases c1 : p < i
  · rw [e3 p c1]
    by_cases c2 : q < i
    · rw [e3 q c2]; exact hs _ _ g1 g2 (by omega)
    · by_cases c3 : q = i
      · rw [c3, e2]; exact h1 _ g1 c1
      · rw [e1 q (by omega) (by omega)]; exact hs _ _ g1 (by omega) (by omega)
  · by_cases c2 : p = i
    · rw [c2, e2]
      by_cases c3 : q = i
      · rw [c3, e2]; exact Int.le_refl _
      · rw [e1 q (by omega) (by omega)]; exact h2 _ (by omega) (by omega)
    · rw [e1 p (by omega) (by omega), e1 q (by omega) (by omega)]; exact hs _ _ (by omega) (by omega) (by omega)
/-- behind the exchange of the middle parts each of the left half is at most each of the right half -/
structure Half (κ : Int → Int) (a m b d s : Nat) (x : Nat → Int) : Prop where
  am : a < m
  mb : m < b
  hd : d = (a + b) / 2
  lo : (if m > d then d + m - b else a) ≤ s
  hi : s ≤ (if m > d then d else m)
  l : (if m > d then d + m - b else a) < s → κ (x (s - 1)) ≤ κ (x (d + m - s))
  r : s < (if m > d then d else m) → κ (x (d + m - 1 - s)) ≤ κ (x s)
theorem Half.bd {κ : Int → Int} {a m b d s : Nat} {x : Nat → Int} (h : Half κ a m b d s x) : a ≤ s ∧ s ≤ m ∧ s ≤ d ∧ m ≤ d + m - s ∧ d + m - s ≤ b ∧ d < b ∧ a ≤ d ∧ d ≤ d + m - s := by
  obtain ⟨h1, h2, h3, h4, h5, -, -⟩ := h
  by_cases q : m > d
  · rw [if_pos q] at h4 h5; omega
  · rw [if_neg q] at h4 h5; omega
theorem Half.le {κ : Int → Int} {a m b d s : Nat} {x y : Nat → Int} (h : Half κ a m b d s x) (hl : Sd κ a m x) (hr : Sd κ m b x) (e : ∀ p, y p = rot s m (d + m - s) x p) {u v : Nat} (hu : a ≤ u ∧ u < d) (hv : d ≤ v ∧ v < b) : κ (y u) ≤ κ (y v) := by
  have hb := h.bd
  have eu : y u = if u < s then x u else x (u + (m - s)) := by
    rw [e]; unfold rot
    by_cases q : u < s
    · rw [if_neg (by omega), if_neg (by omega), if_pos q]
    · rw [if_pos (by omega), if_neg q]
  have ev : y v = if v < d + m - s then x (v - (d - s)) else x v := by
    rw [e]; unfold rot
    by_cases q : v < d + m - s
    · rw [if_neg (by omega), if_pos (by omega), if_pos q]; congr 1; omega
    · rw [if_neg (by omega), if_neg (by omega), if_neg q]
  have hlo := h.lo
  have hhi := h.hi
  rw [eu, ev]
  by_cases q1 : u < s
  · rw [if_pos q1]
    by_cases q2 : v < d + m - s
    · rw [if_pos q2]; exact hl _ _ hu.1 (by omega) (by omega)
    · rw [if_neg q2]
      have g := h.l (by
        by_cases q : m > d
        · rw [if_pos q] at hlo ⊢; omega
        · rw [if_neg q] at hlo ⊢; omega)
      exact Int.le_trans (hl u (s - 1) hu.1 (by omega) (by omega)) (Int.le_trans g (hr _ v (by omega) (by omega) hv.2))
  · rw [if_neg q1]
    by_cases q2 : v < d + m - s
    · rw [if_pos q2]
      have g := h.r (by
        by_cases q : m > d
        · rw [if_pos q] at hhi ⊢; omega
        · rw [if_neg q] at hhi ⊢; omega)
      exact Int.le_trans (hr _ (d + m - 1 - s) (by omega) (by omega) (by omega)) (Int.le_trans g (hl s _ (by omega) (by omega) (by omega)))
    · rw [if_neg q2]; exact hr _ _ (by omega) (by omega) hv.2
theorem Half.parts {κ : Int → Int} {a m b d s : Nat} {x y : Nat → Int} (h : Half κ a m b d s x) (hl : Sd κ a m x) (hr : Sd κ m b x) (e : ∀ p, y p = rot s m (d + m - s) x p) : Sd κ a s y ∧ Sd κ s d y ∧ Sd κ d (d + m - s) y ∧ Sd κ (d + m - s) b y := by
  have hb := h.bd
  refine ⟨fun p q g1 g2 g3 => ?_, fun p q g1 g2 g3 => ?_, fun p q g1 g2 g3 => ?_, fun p q g1 g2 g3 => ?_⟩
  · rw [e, e]; unfold rot
    rw [if_neg (by omega), if_neg (by omega), if_neg (by omega), if_neg (by omega)]; exact hl _ _ g1 g2 (by omega)
  · rw [e, e]; unfold rot
    rw [if_pos (by omega), if_pos (by omega)]; exact hr _ _ (by omega) (by omega) (by omega)
  · rw [e, e]; unfold rot
    rw [if_neg (by omega), if_pos (by omega), if_neg (by omega), if_pos (by omega)]; exact hl _ _ (by omega) (by omega) (by omega)
  · rw [e, e]; unfold rot
    rw [if_neg (by omega), if_neg (by omega), if_neg (by omega), if_neg (by omega)]; exact hr _ _ (by omega) (by omega) g3
/-- two halves in order, each of the left at most each of the right -/
theorem Sd.join {κ : Int → Int} {a d b : Nat} {x y : Nat → Int} (hx : ∀ u v, a ≤ u ∧ u < d → d ≤ v ∧ v < b → κ (x u) ≤ κ (x v)) {z : Nat → Int} (h1 : Pm a d x z) (h2 : Pm d b z y) (had : a ≤ d) (hs : Sd κ a d z) (hs2 : Sd κ d b y) : Sd κ a b y := fun p q g1 g2 g3 => by
  by_cases c1 : q < d
  · rw [h2.out (by omega), h2.out (by omega)]; exact hs p q g1 g2 c1
  · by_cases c2 : p < d
    · obtain ⟨v, hv, ev⟩ := h2.src (i := q) ⟨by omega, g3⟩
      rw [h2.out (i := p) (by omega), ev, h1.out (i := v) (by omega)]
      obtain ⟨u, hu, eu⟩ := h1.src (i := p) ⟨g1, c2⟩
      rw [eu]; exact hx u v hu hv
    · exact hs2 p q (by omega) g2 g3
end Bs
end Go.Proofs.Yteckbfebemofmaa
