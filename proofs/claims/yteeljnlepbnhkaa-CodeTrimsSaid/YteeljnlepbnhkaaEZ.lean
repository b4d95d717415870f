/- The trimmed code, by the search (plain). -/
import Derived.Test.YteeljnlepbnhkaaEX
import Derived.Test.YteeljnlepbnhkaaFU
set_option linter.unusedVariables false
set_option linter.unusedSimpArgs false
namespace Go.Proofs.Yteeljnlepbnhkaa
open Fw
namespace Ec
/-- how many of the first are kept -/
def rk (c : Nat → Int) : Nat → Nat
  | 0 => 0
  | k + 1 => rk c k + if c k ≠ 0 then 1 else 0
/-- where the i-th that is kept stands -/
def sel (c : Nat → Int) : Nat → Nat → Nat
  | 0, _ => 0
  | k + 1, i => if c k ≠ 0 ∧ i = rk c k then k else sel c k i
section
variable {c A B : Nat → Int}
theorem rk_no {k : Nat} (h : c k = 0) : rk c (k + 1) = rk c k := by show rk c k + _ = _; rw [if_neg (by omega)]; rfl
theorem rk_yes {k : Nat} (h : c k ≠ 0) : rk c (k + 1) = rk c k + 1 := by show rk c k + _ = _; rw [if_pos h]
theorem rk_le (c : Nat → Int) : ∀ k, rk c k ≤ k
  | 0 => Nat.le_refl 0
  | k + 1 => by have := rk_le c k; show rk c k + _ ≤ _; split <;> omega
theorem rk_mono {k j : Nat} (h : k ≤ j) : rk c k ≤ rk c j := by
  induction j with
  | zero => exact (show k = 0 by omega) ▸ Nat.le_refl _
  | succ j ih =>
    by_cases e : k = j + 1
    · rw [e]; exact Nat.le_refl _
    · have := ih (by omega)
      show rk c k ≤ rk c j + _; omega
theorem rk_lt {k j : Nat} (h : k < j) (hc : c k ≠ 0) : rk c k < rk c j := by
  have h1 := rk_yes hc
  have h2 := rk_mono (c := c) (show k + 1 ≤ j by omega)
  omega
theorem sel_in : ∀ (k i : Nat), i < rk c k → sel c k i < k ∧ c (sel c k i) ≠ 0 ∧ rk c (sel c k i) = i
  | 0, i, h => by simp [rk] at h
  | k + 1, i, h => by
    unfold sel
    by_cases q : c k ≠ 0 ∧ i = rk c k
    · rw [if_pos q]; exact ⟨by omega, q.1, q.2.symm⟩
    · rw [if_neg q]
      have hi : i < rk c k := by
        by_cases hc : c k = 0
        · rwa [rk_no hc] at h
        · rw [rk_yes hc] at h
          have : i ≠ rk c k := fun e => q ⟨hc, e⟩
          omega
      obtain ⟨h1, h2, h3⟩ := sel_in k i hi
      exact ⟨by omega, h2, h3⟩
theorem sel_up {k i : Nat} (h : i < rk c k) : sel c (k + 1) i = sel c k i := by
  show (if c k ≠ 0 ∧ i = rk c k then k else sel c k i) = _
  rw [if_neg (by omega)]
theorem sel_far {k i : Nat} (h : i < rk c k) : ∀ j, sel c (k + j) i = sel c k i
  | 0 => rfl
  | j + 1 => by
    have h2 : i < rk c (k + j) := Nat.lt_of_lt_of_le h (rk_mono (by omega))
    rw [show k + (j + 1) = (k + j) + 1 by omega, sel_up h2, sel_far h j]
theorem sel_at {k : Nat} (h : c k ≠ 0) : sel c (k + 1) (rk c k) = k := by
  show (if c k ≠ 0 ∧ rk c k = rk c k then k else _) = k
  rw [if_pos ⟨h, rfl⟩]
theorem sel_rk {k n : Nat} (hk : k < n) (h : c k ≠ 0) : sel c n (rk c k) = k := by
  have := sel_far (c := c) (k := k + 1) (i := rk c k) (by rw [rk_yes h]; omega) (n - (k + 1))
  rw [show k + 1 + (n - (k + 1)) = n by omega] at this
  rw [this]; exact sel_at h
/-- the kept ones -/
def fil (c : Nat → Int) (n : Nat) (f : Nat → Int) : Nat → Int := fun i => f (sel c n i)
theorem fil_rk {k n : Nat} (f : Nat → Int) (hk : k < n) (h : c k ≠ 0) : fil c n f (rk c k) = f k := by unfold fil; rw [sel_rk hk h]
theorem fil_up {k i : Nat} (f : Nat → Int) (h : i < rk c k) : fil c (k + 1) f i = fil c k f i := by unfold fil; rw [sel_up h]
theorem fil_at {k : Nat} (f : Nat → Int) (h : c k ≠ 0) : fil c (k + 1) f (rk c k) = f k := by unfold fil; rw [sel_at h]
/-- nothing is to be dropped -/
theorem rk_all : ∀ n, (∀ i, i < n → c i ≠ 0) → rk c n = n
  | 0, _ => rfl
  | n + 1, h => by rw [rk_yes (h n (by omega)), rk_all n (fun i hi => h i (by omega))]
theorem fil_all {n i : Nat} (f : Nat → Int) (h : ∀ i, i < n → c i ≠ 0) (hi : i < n) : fil c n f i = f i := by
  have := fil_rk (c := c) f hi (h i hi)
  rwa [rk_all i (fun j hj => h j (by omega))] at this
structure Sim2 (c : Nat → Int) (k : Nat) (s s' : Sh) : Prop where
  l : s'.l = s.l.map (rk c)
  m : s'.m = s.m
  e : ∀ x, x < k → c x ≠ 0 → (s'.e (rk c x) < 0 ↔ s.e x < 0)
theorem sim2_step {n k : Nat} {s s' s1 : Sh} (hk : k < n) (I : Inv c k s) (S : Sim2 c k s s') (h : stp c k s = some s1) (hc : c k ≠ 0) : ∃ s1', stp (fil c n c) (rk c k) s' = some s1' ∧ Sim2 c (k + 1) s1 s1' := by
  have hck : fil c n c (rk c k) = c k := fil_rk c hk hc
  have hlen : s'.l.length = s.l.length := by rw [S.l]; simp
  have he : ∀ x, x < k + 1 → c x ≠ 0 → (upI s'.e (rk c k) (-1) (rk c x) < 0 ↔ upI s.e k (-1) x < 0) := fun x hx hx0 => by
    by_cases q : x = k
    · subst q; rw [upI_same, upI_same]
    · have := rk_lt (c := c) (show x < k by omega) hx0
      rw [upI_ne (by omega), upI_ne q]; exact S.e x (by omega) hx0
  have mapl : ∀ r x, (List.map (rk c) (r ++ [x])).getLast? = some (rk c x) := fun r x => by rw [List.map_append]; exact last_app
  rcases stp_inv h with ⟨ho, rfl⟩ | ⟨ho, h4, h5, rfl⟩ | ⟨h4, r, x, hl, h2, hx, rfl⟩ | ⟨h5, r, x, hl, h2, rfl⟩
  · refine ⟨_, by unfold stp; simp only []; rw [if_pos (by rw [hck]; exact ho)], ?_, ?_, he⟩
    · show s'.l ++ [rk c k] = (s.l ++ [k]).map (rk c)
      rw [S.l]; simp
    · show max s'.m (s'.l.length + 1) = max s.m (s.l.length + 1)
      rw [hlen, S.m]
  · exact ⟨_, stp_other (by rw [hck]; exact ho) (by rw [hck]; exact h4) (by rw [hck]; exact h5), S.l, S.m, he⟩
  · have hxl : x ∈ s.l := by rw [hl]; simp
    have hxk := I.lt x hxl
    have hx0 : c x ≠ 0 := by have := opn_iff.1 (I.op x hxl); omega
    have hx1 : fil c n c (rk c x) = c x := fil_rk c (by omega) hx0
    have q := stp_else_ok (c := fil c n c) (k := rk c k) (s := s') (x := rk c x) (by rw [hck, h4]; rfl) (by rw [hck]; exact h4) (by rw [S.l, hl]; exact mapl r x) (by unfold two; rw [hx1]; exact h2) ((he x (by omega) hx0).2 hx)
    refine ⟨_, q, S.l, S.m, ?_⟩
    intro y hy hy0
    show upI (upI s'.e (rk c k) (-1)) (rk c x) ((rk c k : Nat) : Int) (rk c y) < 0 ↔ upI (upI s.e k (-1)) x (k : Int) y < 0
    by_cases e : y = x
    · subst e; rw [upI_same, upI_same]; omega
    · have hne : rk c y ≠ rk c x := by
        rcases Nat.lt_or_gt_of_ne e with q | q
        · have := rk_lt (c := c) q hy0; omega
        · have := rk_lt (c := c) q hx0; omega
      rw [upI_ne hne, upI_ne e]; exact he y hy hy0
  · have hxl : x ∈ s.l := by rw [hl]; simp
    have hxk := I.lt x hxl
    have hx0 : c x ≠ 0 := by have := opn_iff.1 (I.op x hxl); omega
    have hx1 : fil c n c (rk c x) = c x := fil_rk c (by omega) hx0
    have q := stp_end_ok (c := fil c n c) (k := rk c k) (s := s') (x := rk c x) (by rw [hck, h5]; rfl) (by rw [hck]; exact h5) (by rw [S.l, hl]; exact mapl r x) (fun q => h2 ⟨by rw [← hx1]; exact q.1, (he x (by omega) hx0).1 q.2⟩)
    refine ⟨_, q, ?_, S.m, he⟩
    show s'.l.dropLast = r.map (rk c)
    rw [S.l, hl, List.map_append]; exact List.dropLast_concat
theorem sim2 {n : Nat} : ∀ (k : Nat) (s : Sh), k ≤ n → shp c k = some s → ∃ s', shp (fil c n c) (rk c k) = some s' ∧ Sim2 c k s s'
  | 0, s, _, h => by
    simp only [shp, Option.some.injEq] at h; subst h
    exact ⟨_, rfl, rfl, rfl, fun x hx => by omega⟩
  | k + 1, s1, hk, h => by
    obtain ⟨s, hs, hst⟩ := shp_succ h
    obtain ⟨s', h1, h2⟩ := sim2 (n := n) k s (by omega) hs
    by_cases hc : c k = 0
    · rw [rk_no hc]
      have e1 : s1 = lay k s := by
        have := stp_other (c := c) (k := k) (s := s) (by rw [hc]; rfl) (by omega) (by omega)
        rw [hst] at this; exact Option.some.inj this
      subst e1
      refine ⟨s', h1, h2.l, h2.m, fun x hx hx0 => ?_⟩
      have : x ≠ k := fun e => hx0 (by rw [e]; exact hc)
      show _ ↔ upI s.e k (-1) x < 0
      rw [upI_ne this]; exact h2.e x (by omega) hx0
    · obtain ⟨s1', g1, g2⟩ := sim2_step (n := n) (show k < n by omega) (inv_of k s hs) h2 hst hc
      rw [rk_yes hc]
      exact ⟨s1', shp_step h1 g1, g2⟩
/-- the trimmed code is code -/
theorem fil_chk {n : Nat} (h : chk c A B false n = 0) : chk (fil c n c) (fil c n A) (fil c n B) false (rk c n) = 0 := by
  have hb := chk_bal h
  obtain ⟨s', h1, h2⟩ := sim2 (n := n) n _ (Nat.le_refl n) hb.hs
  have hl : s'.l = [] := by rw [h2.l, hb.hl]; rfl
  have hr := rk_le c n
  refine chk_0 (by have := (chk_ok h).1; omega) (fun i hi => ?_) (okS_yes h1 (by rw [hl]; rfl) (by rw [h2.m]; exact hb.hm))
  exact allV_spec.1 (chk_ok h).2.1 _ (sel_in n i hi).1
/-- how often an operation occurs -/
def cn (c : Nat → Int) (op : Int) : Nat → Nat
  | 0 => 0
  | k + 1 => cn c op k + if c k = op then 1 else 0
theorem cn_le (c : Nat → Int) (op : Int) : ∀ k, cn c op k ≤ k
  | 0 => Nat.le_refl 0
  | k + 1 => by have := cn_le c op k; show cn c op k + _ ≤ _; split <;> omega
theorem cn_yes {op : Int} {k : Nat} (h : c k = op) : cn c op (k + 1) = cn c op k + 1 := by show cn c op k + _ = _; rw [if_pos h]
theorem cn_no {op : Int} {k : Nat} (h : ¬ c k = op) : cn c op (k + 1) = cn c op k := by show cn c op k + _ = _; rw [if_neg h]; rfl
theorem cn_fil {op : Int} {n : Nat} (ho : op ≠ 0) : ∀ k, k ≤ n → cn (fil c n c) op (rk c k) = cn c op k
  | 0, _ => rfl
  | k + 1, hk => by
    have ih := cn_fil (n := n) ho k (by omega)
    by_cases hc : c k = 0
    · rw [rk_no hc, cn_no (by omega)]; exact ih
    · rw [rk_yes hc]
      have hf := fil_rk (c := c) (n := n) c (show k < n by omega) hc
      by_cases q : c k = op
      · rw [cn_yes q, cn_yes (by rw [hf]; exact q), ih]
      · rw [cn_no q, cn_no (by rw [hf]; exact q), ih]
theorem cn_zero {f : Nat → Int} : ∀ m, (∀ i, i < m → f i ≠ 0) → cn f 0 m = 0
  | 0, _ => rfl
  | m + 1, h => by rw [cn_no (h m (by omega))]; exact cn_zero m (fun i hi => h i (by omega))
theorem cn_fil0 {n : Nat} : cn (fil c n c) 0 (rk c n) = 0 := cn_zero _ fun i hi => (sel_in n i hi).2.1
/-- what Count returns -/
def coF (c A B : Nat → Int) (n : Nat) (op : Int) : Int := if chk c A B false n ≠ 0 then chk c A B false n else if op < 0 ∨ 35 < op then 1 else 0
def coN (c A B : Nat → Int) (n : Nat) (op : Int) : Int := if coF c A B n op = 0 then (cn c op n : Int) else 0
theorem co_bad {n : Nat} {op : Int} (h : chk c A B false n ≠ 0) : coF c A B n op = chk c A B false n ∧ coN c A B n op = 0 := by
  have e : coF c A B n op = chk c A B false n := by unfold coF; rw [if_pos h]
  exact ⟨e, by unfold coN; rw [e, if_neg h]⟩
theorem co_arg {n : Nat} {op : Int} (h : chk c A B false n = 0) (ho : op < 0 ∨ 35 < op) : coF c A B n op = 1 ∧ coN c A B n op = 0 := by
  have e : coF c A B n op = 1 := by unfold coF; rw [if_neg (by omega), if_pos ho]
  exact ⟨e, by unfold coN; rw [e]; rfl⟩
theorem co_ok {n : Nat} {op : Int} (h : chk c A B false n = 0) (ho : ¬ (op < 0 ∨ 35 < op)) : coF c A B n op = 0 ∧ coN c A B n op = (cn c op n : Int) := by
  have e : coF c A B n op = 0 := by unfold coF; rw [if_neg (by omega), if_neg ho]
  exact ⟨e, by unfold coN; rw [e, if_pos rfl]⟩
theorem co_fil {n : Nat} {op : Int} (h : chk c A B false n = 0) (ho : op ≠ 0) : coF (fil c n c) (fil c n A) (fil c n B) (rk c n) op = coF c A B n op ∧ coN (fil c n c) (fil c n A) (fil c n B) (rk c n) op = coN c A B n op := by
  by_cases q : op < 0 ∨ 35 < op
  · have a := co_arg (A := A) (B := B) h q; have b := co_arg (fil_chk h) q
    exact ⟨by rw [a.1, b.1], by rw [a.2, b.2]⟩
  · have a := co_ok (A := A) (B := B) h q; have b := co_ok (fil_chk h) q
    exact ⟨by rw [a.1, b.1], by rw [a.2, b.2, cn_fil ho n (Nat.le_refl n)]⟩
theorem co_fil0 {n : Nat} (h : chk c A B false n = 0) : coF (fil c n c) (fil c n A) (fil c n B) (rk c n) 0 = 0 ∧ coN (fil c n c) (fil c n A) (fil c n B) (rk c n) 0 = 0 := by
  have b := co_ok (op := 0) (fil_chk h) (by omega)
  exact ⟨b.1, by rw [b.2, cn_fil0]; rfl⟩
end
end Ec
end Go.Proofs.Yteeljnlepbnhkaa
