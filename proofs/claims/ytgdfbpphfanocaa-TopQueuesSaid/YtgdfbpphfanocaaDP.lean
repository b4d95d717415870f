/- Plain law of the tables: open addressing with deletion by moving back: every key is found from its home. -/
import Derived.Test.YtgdfbpphfanocaaCX
set_option linter.unusedVariables false
set_option linter.unusedSimpArgs false
namespace Go.Proofs.Ytgdfbpphfanocaa
namespace Lc

/-- how far b lies behind a, going round -/
def ds (n a b : Nat) : Nat := if a ≤ b then b - a else b + n - a
theorem dsD (n a b : Nat) : (a ≤ b ∧ ds n a b + a = b) ∨ (b < a ∧ (ds n a b + a = b + n ∨ b + n < a)) := by unfold ds; split <;> omega
/-- the home of the key in cell i -/
def hm (t : Nat → Cl) (n i : Nat) : Nat := ((t i).k % (n : Int)).toNat
def zc : Cl := ⟨false, 0, 0⟩
theorem hm_lt (t : Nat → Cl) (n i : Nat) (hn : 1 ≤ n) : hm t n i < n := by
  unfold hm
  have := Int.emod_nonneg (t i).k (b := (n : Int)) (by omega)
  have := Int.emod_lt_of_pos (t i).k (b := (n : Int)) (by omega)
  omega
/-- on the way from its home to its cell: used cells, of other keys, that are elder -/
structure Inv (n : Nat) (t : Nat → Cl) (r : Nat → Nat) : Prop where
  out : ∀ i, i < n → (t i).u = true → ∀ x, x < n → ds n (hm t n i) x < ds n (hm t n i) i → (t x).u = true ∧ (t x).k ≠ (t i).k ∧ r x < r i
/-- the same while a gap g goes from b on; the cells at 1 .. k-1 behind b are done; R is how old what was in the gap is -/
structure Gp (n b g k R : Nat) (t : Nat → Cl) (r : Nat → Nat) : Prop where
  gn : g < n
  gl : ds n b g < k
  e : (t g).u = false
  p1 : ∀ i, i < n → (t i).u = true → ∀ x, x < n → ds n (hm t n i) x < ds n (hm t n i) i → (x = g ∧ R < r i) ∨ ((t x).u = true ∧ (t x).k ≠ (t i).k ∧ r x < r i)
  p2 : ∀ i, i < n → (t i).u = true → ds n b g < ds n b i → ds n b i < k → ¬ (ds n (hm t n i) g < ds n (hm t n i) i)
  p3 : ∀ i, i < n → (t i).u = true → ds n b i < ds n b g → r i ≤ R ∨ ds n (hm t n i) i ≤ ds n b i
  /-- two cells never hold one key -/
  q : ∀ i j, i < n → j < n → (t i).u = true → (t j).u = true → (t i).k = (t j).k → i = j

/-- a key stands in one cell at most -/
theorem Inv.uni {n : Nat} {t : Nat → Cl} {r : Nat → Nat} (h : Inv n t r) {i j : Nat} (hi : i < n) (hj : j < n) (ui : (t i).u = true) (uj : (t j).u = true) (e : (t i).k = (t j).k) : i = j := by
  have hh : hm t n i = hm t n j := by unfold hm; rw [e]
  have hl := hm_lt t n i (by omega)
  rcases Nat.lt_trichotomy (ds n (hm t n i) i) (ds n (hm t n i) j) with c | c | c
  · exact absurd e (h.out j hj uj i hi (by rw [← hh]; exact c)).2.1
  · have := dsD n (hm t n i) i; have := dsD n (hm t n i) j; omega
  · exact absurd e.symm (h.out i hi ui j hj c).2.1

theorem upd_at (t : Nat → Cl) (i : Nat) (x : Cl) : upd t i x i = x := by simp [upd]
theorem upd_ne (t : Nat → Cl) {i j : Nat} (x : Cl) (h : j ≠ i) : upd t i x j = t j := by simp [upd, h]
theorem hm_of {t t' : Nat → Cl} {n i j : Nat} (h : (t i).k = (t' j).k) : hm t n i = hm t' n j := by unfold hm; rw [h]

/-- the beginning: a used cell b is emptied -/
theorem Gp.start {n b : Nat} {t : Nat → Cl} {r : Nat → Nat} (h : Inv n t r) (hb : b < n) (ub : (t b).u = true) : Gp n b b 1 (r b) (upd t b zc) r := by
  have n0 : ds n b b = 0 := by unfold ds; rw [if_pos (Nat.le_refl _)]; omega
  refine ⟨hb, by omega, by rw [upd_at]; rfl, fun i hi ui x hx hd => ?_, fun i hi ui h1 h2 => absurd h1 (by omega), fun i hi ui h1 => absurd h1 (by omega), fun i j hi hj ui uj e => ?_⟩
  · have hib : i ≠ b := fun c => by subst c; rw [upd_at] at ui; cases ui
    have hh : hm (upd t b zc) n i = hm t n i := hm_of (by rw [upd_ne _ _ hib])
    rw [upd_ne _ _ hib] at ui ⊢
    rw [hh] at hd
    have := h.out i hi ui x hx hd
    by_cases c : x = b
    · subst c; exact Or.inl ⟨rfl, this.2.2⟩
    · rw [upd_ne _ _ c]; exact Or.inr this
  · have hib : i ≠ b := fun c => by subst c; rw [upd_at] at ui; cases ui
    have hjb : j ≠ b := fun c => by subst c; rw [upd_at] at uj; cases uj
    rw [upd_ne _ _ hib] at ui e
    rw [upd_ne _ _ hjb] at uj e
    exact h.uni hi hj ui uj e
/-- the cell at k behind b stays -/
theorem Gp.stay {n b g k R a : Nat} {t : Nat → Cl} {r : Nat → Nat} (h : Gp n b g k R t r) (hb : b < n) (ha : a < n) (hk : ds n b a = k) (hs : ¬ (ds n (hm t n a) g < ds n (hm t n a) a)) : Gp n b g (k + 1) R t r := by
  refine ⟨h.gn, by have := h.gl; omega, h.e, h.p1, fun i hi ui h1 h2 => ?_, h.p3, h.q⟩
  by_cases c : ds n b i < k
  · exact h.p2 i hi ui h1 c
  · have e : ds n b i = ds n b a := by omega
    have : i = a := by have := dsD n b i; have := dsD n b a; omega
    subst this; exact hs
/-- the cell at k behind b is moved into the gap -/
theorem Gp.move {n b g k R a : Nat} {t : Nat → Cl} {r : Nat → Nat} (h : Gp n b g k R t r) (hb : b < n) (ha : a < n) (hk : ds n b a = k) (ua : (t a).u = true) (hs : ds n (hm t n a) g < ds n (hm t n a) a) :
    Gp n b a (k + 1) (r a) (upd (upd t g (t a)) a zc) (fun i => if i = g then r a else r i) := by
  have hg := h.gn
  have hgk := h.gl
  have hga : g ≠ a := fun c => by subst c; omega
  have hla := hm_lt t n a (by omega)
  have hR : R < r a := by
    rcases h.p1 a ha ua g hg hs with ⟨_, c⟩ | ⟨c, _⟩
    · exact c
    · rw [h.e] at c; cases c
  -- what passes the gap lies behind a
  have far : ∀ i, i < n → (t i).u = true → i ≠ a → ds n (hm t n i) g < ds n (hm t n i) i → ds n (hm t n i) a < ds n (hm t n i) i ∧ R < r i := by
    intro i hi ui hia hd
    have hl := hm_lt t n i (by omega)
    have hig : i ≠ g := fun c => by subst c; rw [h.e] at ui; cases ui
    have hRi : R < r i := by
      rcases h.p1 i hi ui g hg hd with ⟨_, c⟩ | ⟨c, _⟩
      · exact c
      · rw [h.e] at c; cases c
    refine ⟨?_, hRi⟩
    have q2 := h.p2 i hi ui
    have q3 := h.p3 i hi ui
    rcases Nat.lt_trichotomy (ds n b i) (ds n b g) with c | c | c
    · rcases q3 c with c2 | c2
      · omega
      · have := dsD n b i; have := dsD n b g; have := dsD n (hm t n i) i; have := dsD n (hm t n i) g; omega
    · exfalso; have := dsD n b i; have := dsD n b g; omega
    · by_cases c3 : ds n b i < k
      · exact absurd hd (q2 c c3)
      · have c4 : ds n b a ≤ ds n b i := by omega
        clear q2 q3
        have := dsD n b i; have := dsD n b g; have := dsD n b a; have := dsD n (hm t n i) i; have := dsD n (hm t n i) g; have := dsD n (hm t n i) a
        omega
  have tg : upd (upd t g (t a)) a zc g = t a := by rw [upd_ne _ _ hga, upd_at]
  have to : ∀ i, i ≠ g → i ≠ a → upd (upd t g (t a)) a zc i = t i := fun i h1 h2 => by rw [upd_ne _ _ h2, upd_ne _ _ h1]
  have noa : ∀ i, (upd (upd t g (t a)) a zc i).u = true → i ≠ a := fun i ui c => by subst c; rw [upd_at] at ui; cases ui
  refine ⟨ha, by omega, by rw [upd_at]; rfl, fun i hi ui x hx hd => ?_, fun i hi ui h1 h2 => absurd h1 (by omega), fun i hi ui h1 => ?_, fun i j hi hj ui uj e => ?_⟩
  · have hia := noa i ui
    by_cases hig : i = g
    · subst hig
      have hh : hm (upd (upd t i (t a)) a zc) n i = hm t n a := hm_of (by rw [tg])
      rw [tg]
      rw [hh] at hd
      have hxg : x ≠ i := fun c => by subst c; omega
      have hxa : x ≠ a := fun c => by subst c; omega
      rw [to x hxg hxa, if_neg hxg, if_pos rfl]
      rcases h.p1 a ha ua x hx (by omega) with ⟨c, _⟩ | c
      · exact absurd c hxg
      · exact Or.inr c
    · have hh : hm (upd (upd t g (t a)) a zc) n i = hm t n i := hm_of (by rw [to i hig hia])
      rw [to i hig hia] at ui ⊢
      rw [hh] at hd
      rw [if_neg hig]
      by_cases hxa : x = a
      · subst hxa
        rcases h.p1 i hi ui x hx hd with ⟨c, _⟩ | c
        · exact absurd c.symm hga
        · exact Or.inl ⟨rfl, c.2.2⟩
      · by_cases hxg : x = g
        · subst hxg
          obtain ⟨f1, f2⟩ := far i hi ui hia hd
          rw [tg, if_pos rfl]
          rcases h.p1 i hi ui a ha f1 with ⟨c, _⟩ | c
          · exact absurd c.symm hga
          · exact Or.inr c
        · rw [to x hxg hxa, if_neg hxg]
          rcases h.p1 i hi ui x hx hd with ⟨c, _⟩ | c
          · exact absurd c hxg
          · exact Or.inr c
  · have hia := noa i ui
    by_cases hig : i = g
    · subst hig; left; rw [if_pos rfl]; exact Nat.le_refl _
    · have hh : hm (upd (upd t g (t a)) a zc) n i = hm t n i := hm_of (by rw [to i hig hia])
      rw [to i hig hia] at ui
      rw [hh, if_neg hig]
      rcases Nat.lt_trichotomy (ds n b i) (ds n b g) with c | c | c
      · rcases h.p3 i hi ui c with c2 | c2
        · left; omega
        · right; exact c2
      · exfalso; have := dsD n b i; have := dsD n b g; omega
      · right
        have hd := h.p2 i hi ui c (by omega)
        have hl := hm_lt t n i (by omega)
        clear far
        have := dsD n b i; have := dsD n b g; have := dsD n (hm t n i) i; have := dsD n (hm t n i) g
        omega
  · have hia := noa i ui
    have hja := noa j uj
    by_cases hig : i = g
    · by_cases hjg : j = g
      · omega
      · subst hig
        rw [tg] at e
        rw [to j hjg hja] at uj e
        exact absurd (h.q a j ha hj ua uj e) (Ne.symm hja)
    · rw [to i hig hia] at ui e
      by_cases hjg : j = g
      · subst hjg
        rw [tg] at e
        exact absurd (h.q i a hi ha ui ua e) hia
      · rw [to j hjg hja] at uj e
        exact h.q i j hi hj ui uj e
/-- the end: the cell at k behind b is empty, or all have been looked at -/
theorem Gp.stop {n b g k R : Nat} {t : Nat → Cl} {r : Nat → Nat} (h : Gp n b g k R t r) (hb : b < n) (he : n ≤ k ∨ ∃ a, a < n ∧ ds n b a = k ∧ (t a).u = false) : Inv n t r := by
  refine ⟨fun i hi ui x hx hd => ?_⟩
  have hg := h.gn
  have hgk := h.gl
  rcases h.p1 i hi ui x hx hd with ⟨rfl, hR⟩ | c
  · exfalso
    have hl := hm_lt t n i (by omega)
    have hig : i ≠ x := fun c => by subst c; rw [h.e] at ui; cases ui
    rcases Nat.lt_trichotomy (ds n b i) (ds n b x) with c | c | c
    · rcases h.p3 i hi ui c with c2 | c2
      · omega
      · have := dsD n b i; have := dsD n b x; have := dsD n (hm t n i) i; have := dsD n (hm t n i) x; omega
    · have := dsD n b i; have := dsD n b x; omega
    · by_cases c3 : ds n b i < k
      · exact h.p2 i hi ui c c3 hd
      · rcases he with he | ⟨a, ha, hk, ea⟩
        · have := dsD n b i; omega
        · have hia : i ≠ a := fun c => by subst c; rw [ea] at ui; cases ui
          have hxa : a ≠ x := fun c => by subst c; omega
          have c4 : ds n b a ≤ ds n b i := by omega
          have c5 : ds n (hm t n i) a < ds n (hm t n i) i := by
            have := dsD n b i; have := dsD n b x; have := dsD n b a; have := dsD n (hm t n i) i; have := dsD n (hm t n i) x; have := dsD n (hm t n i) a
            omega
          rcases h.p1 i hi ui a ha c5 with ⟨c6, _⟩ | ⟨c6, _⟩
          · exact hxa c6
          · rw [ea] at c6; cases c6
  · exact c
end Lc
end Go.Proofs.Ytgdfbpphfanocaa
