/- Plain law of the tables, the second part: what a call does to the keys, and that each key is found. -/
import Derived.Test.YtgdfbpphfanocaaDG
set_option linter.unusedVariables false
set_option linter.unusedSimpArgs false
namespace Go.Proofs.Ytgdfbpphfanocaa
namespace Lc

theorem ds_lt {n a b : Nat} (ha : a < n) (hb : b < n) : ds n a b < n := by have := dsD n a b; omega
theorem ds_int {n x y : Nat} (hx : x < n) (hy : y < n) : ((x : Int) - (y : Int)) % (n : Int) = (ds n y x : Int) := by
  rcases dsD n y x with ⟨h1, h2⟩ | ⟨h1, h2 | h2⟩
  · rw [Int.emod_eq_of_lt (by omega) (by omega)]; omega
  · rw [show ((x : Int) - (y : Int)) = (ds n y x : Int) - (n : Int) * 1 by omega, Int.sub_mul_emod_self_left, Int.emod_eq_of_lt (by omega) (by have := ds_lt hy hx; omega)]
  · omega
theorem hm_int (t : Nat → Cl) (n i : Nat) (hn : 1 ≤ n) : (t i).k % (n : Int) = (hm t n i : Int) := by
  unfold hm
  have := Int.emod_nonneg (t i).k (b := (n : Int)) (by omega)
  omega
theorem mv_ds {t : Nat → Cl} {n g a : Nat} (hg : g < n) (ha : a < n) (hga : g ≠ a) : mv t n g a = true ↔ ds n (hm t n a) g < ds n (hm t n a) a := by
  have hl := hm_lt t n a (by omega)
  unfold mv
  rw [hm_int t n a (by omega), ds_int hl hg, ds_int ha hg]
  have h1 := dsD n (hm t n a) g
  have h2 := dsD n (hm t n a) a
  have h3 := dsD n g (hm t n a)
  have h4 := dsD n g a
  simp only [Bool.or_eq_true, beq_iff_eq, decide_eq_true_eq]
  omega
/-- the cell at j behind a home -/
theorem atk_ds {n : Nat} {key : Int} {j : Nat} (hj : j < n) : ds n (key % (n : Int)).toNat (atk n key j) = j ∧ atk n key j < n := by
  have h0 := Int.emod_nonneg key (b := (n : Int)) (by omega)
  have h1 := Int.emod_lt_of_pos key (b := (n : Int)) (by omega)
  obtain ⟨h, hh⟩ : ∃ h : Nat, (key % (n : Int)).toNat = h := ⟨_, rfl⟩
  have hl : h < n := by omega
  unfold atk
  rw [hh]
  have e : (h + j) % n = if h + j < n then h + j else h + j - n := by
    split
    · rename_i c; exact Nat.mod_eq_of_lt c
    · rename_i c; rw [Nat.mod_eq_sub_mod (by omega), Nat.mod_eq_of_lt (by omega)]
  rw [e]
  split
  · have := dsD n h (h + j); omega
  · have := dsD n h (h + j - n); omega
theorem ds_atk {n : Nat} {key : Int} {x : Nat} (hx : x < n) : atk n key (ds n (key % (n : Int)).toNat x) = x := by
  have h0 := Int.emod_nonneg key (b := (n : Int)) (by omega)
  have h1 := Int.emod_lt_of_pos key (b := (n : Int)) (by omega)
  have hl : (key % (n : Int)).toNat < n := by omega
  have hd := ds_lt hl hx
  have := (atk_ds (key := key) hd).1
  have h3 := (atk_ds (key := key) hd).2
  have h4 := dsD n (key % (n : Int)).toNat x
  have h5 := dsD n (key % (n : Int)).toNat (atk n key (ds n (key % (n : Int)).toNat x))
  omega
theorem sc_spec {p : Nat → Bool} : ∀ (j k : Nat), (k ≤ sc p j k ∧ sc p j k ≤ k + j) ∧ (∀ i, k ≤ i → i < sc p j k → p i = false) ∧ (sc p j k < k + j → p (sc p j k) = true)
  | 0, k => ⟨⟨Nat.le_refl _, Nat.le_refl _⟩, fun i h1 h2 => by have : sc p 0 k = k := rfl; omega, fun h => by have : sc p 0 k = k := rfl; omega⟩
  | j + 1, k => by
    unfold sc
    cases hp : p k
    · have := sc_spec (p := p) j (k + 1)
      simp only [Bool.false_eq_true, if_false]
      refine ⟨by omega, fun i h1 h2 => ?_, fun h => this.2.2 (by omega)⟩
      by_cases c : i = k
      · subst c; exact hp
      · exact this.2.1 i (by omega) h2
    · simp only [if_true]
      exact ⟨by omega, fun i h1 h2 => by omega, fun _ => hp⟩
theorem fnd_spec (t : Nat → Cl) (n : Nat) (key : Int) :
    (∃ m, m < n ∧ fnd t n key = ((atk n key m : Int), (m : Int) + 1) ∧ hit t n key m = true ∧ ∀ j, j < m → hit t n key j = false) ∨ (fnd t n key = (-1, (n : Int)) ∧ ∀ j, j < n → hit t n key j = false) := by
  have h := sc_spec (p := hit t n key) n 0
  by_cases c : sc (hit t n key) n 0 < n
  · exact Or.inl ⟨_, c, by unfold fnd; rw [if_pos c], h.2.2 (by omega), fun j hj => h.2.1 j (by omega) hj⟩
  · refine Or.inr ⟨by unfold fnd; rw [if_neg c], fun j hj => h.2.1 j (by omega) (by omega)⟩
theorem hit_no {t : Nat → Cl} {n : Nat} {key : Int} {j : Nat} (h : hit t n key j = false) : (t (atk n key j)).u = true ∧ (t (atk n key j)).k ≠ key := by
  unfold hit at h; simpa using h
/-- under the invariant each key is found -/
theorem Inv.found {n : Nat} {t : Nat → Cl} {r : Nat → Nat} (h : Inv n t r) {i : Nat} (hi : i < n) (ui : (t i).u = true) :
    fnd t n (t i).k = ((i : Int), (ds n (hm t n i) i : Int) + 1) ∧ isF t n (t i).k = true := by
  have hl := hm_lt t n i (by omega)
  have hd := ds_lt hl hi
  have e : atk n (t i).k (ds n (hm t n i) i) = i := ds_atk hi
  have hf := fnd_hit (t := t) (n := n) (key := (t i).k) hd (fun j _ hj => by
    have ha := atk_ds (key := (t i).k) (show j < n by omega)
    have := h.out i hi ui (atk n (t i).k j) ha.2 (by show ds n (hm t n i) _ < _; unfold hm; rw [ha.1]; exact hj)
    unfold hit; rw [this.1]; simpa using this.2.1) (by unfold hit; rw [e, ui]; simp)
  rw [e] at hf
  refine ⟨hf, ?_⟩
  unfold isF; rw [hf]; simp [ui]
theorem Inv.zero (n : Nat) : Inv n zero (fun _ => 0) := ⟨fun i _ ui => by cases ui⟩
theorem above (r : Nat → Nat) : ∀ n : Nat, ∃ M, ∀ i, i < n → r i < M
  | 0 => ⟨0, fun i hi => absurd hi (by omega)⟩
  | n + 1 => by
    obtain ⟨M, hM⟩ := above r n
    refine ⟨M + r n + 1, fun i hi => ?_⟩
    by_cases c : i < n
    · have := hM i c; omega
    · obtain rfl : i = n := by omega
      omega
theorem put_same {t : Nat → Cl} {n : Nat} {key v : Int} {m : Nat} (h : fnd t n key = ((atk n key m : Int), (m : Int) + 1)) : put t n key v = upd t (atk n key m) ⟨true, key, v⟩ := by
  unfold put; rw [h, if_neg (by simp only []; omega), Int.toNat_natCast]
theorem put_no {t : Nat → Cl} {n : Nat} {key v : Int} (h : fnd t n key = (-1, (n : Int))) : put t n key v = t := by
  unfold put; rw [h, if_pos (by simp only []; omega)]
theorem Inv.put {n : Nat} {t : Nat → Cl} {r : Nat → Nat} (h : Inv n t r) (key v : Int) : ∃ r', Inv n (Lc.put t n key v) r' := by
  rcases fnd_spec t n key with ⟨m, hm1, hf, hh, hno⟩ | ⟨hf, hno⟩
  · rw [put_same hf]
    obtain ⟨ha1, ha2⟩ := atk_ds (key := key) hm1
    obtain ⟨at_, hat⟩ : ∃ at_, at_ = atk n key m := ⟨_, rfl⟩
    rw [← hat] at ha1 ha2 ⊢
    have hh2 : hit t n key m = true := hh
    unfold hit at hh2
    rw [← hat] at hh2
    cases hu : (t at_).u
    · obtain ⟨M, hM⟩ := above r n
      refine ⟨fun i => if i = at_ then M else r i, ⟨fun i hi ui x hx hd => ?_⟩⟩
      by_cases hia : i = at_
      · subst hia
        have hk : hm (upd t i ⟨true, key, v⟩) n i = (key % (n : Int)).toNat := by unfold hm; rw [upd_at]
        rw [hk, ha1] at hd
        have hxa : x ≠ i := fun c => by subst c; omega
        have hno2 := hit_no (hno _ hd)
        rw [ds_atk hx] at hno2
        rw [upd_at, upd_ne _ _ hxa, if_neg hxa, if_pos rfl]
        exact ⟨hno2.1, hno2.2, hM x hx⟩
      · have hk : hm (upd t at_ ⟨true, key, v⟩) n i = hm t n i := hm_of (by rw [upd_ne _ _ hia])
        rw [upd_ne _ _ hia] at ui ⊢
        rw [hk] at hd
        have := h.out i hi ui x hx hd
        have hxa : x ≠ at_ := fun c => by subst c; rw [hu] at this; cases this.1
        rw [upd_ne _ _ hxa, if_neg hia, if_neg hxa]
        exact this
    · have hk0 : (t at_).k = key := by rw [hu] at hh2; simpa using hh2
      have ku : ∀ i, (upd t at_ ⟨true, key, v⟩ i).u = (t i).u ∧ (upd t at_ ⟨true, key, v⟩ i).k = (t i).k := fun i => by
        by_cases c : i = at_
        · subst c; rw [upd_at]; exact ⟨hu.symm, hk0.symm⟩
        · rw [upd_ne _ _ c]; exact ⟨rfl, rfl⟩
      refine ⟨r, ⟨fun i hi ui x hx hd => ?_⟩⟩
      have hk : hm (upd t at_ ⟨true, key, v⟩) n i = hm t n i := hm_of (ku i).2
      rw [(ku i).1] at ui
      rw [hk] at hd
      rw [(ku x).1, (ku x).2, (ku i).2]
      exact h.out i hi ui x hx hd
  · rw [put_no hf]; exact ⟨r, h⟩
/-- the cell at k behind b -/
theorem off_k {n b k : Nat} (hb : b < n) (hk : k < n) : ds n b ((b + k) % n) = k ∧ (b + k) % n < n := by
  have e : (b + k) % n = if b + k < n then b + k else b + k - n := by
    split
    · rename_i c; exact Nat.mod_eq_of_lt c
    · rename_i c; rw [Nat.mod_eq_sub_mod (by omega), Nat.mod_eq_of_lt (by omega)]
  rw [e]
  split
  · have := dsD n b (b + k); omega
  · have := dsD n b (b + k - n); omega
/-- a key with its value -/
def has (t : Nat → Cl) (n : Nat) (key v : Int) : Prop := ∃ i, i < n ∧ (t i).u = true ∧ (t i).k = key ∧ (t i).v = v
theorem has_move {t : Nat → Cl} {n g a : Nat} (hg : g < n) (ha : a < n) (hga : g ≠ a) (eg : (t g).u = false) (ua : (t a).u = true) (key v : Int) : has (upd (upd t g (t a)) a zc) n key v ↔ has t n key v := by
  constructor
  · rintro ⟨i, hi, ui, ki, vi⟩
    have hia : i ≠ a := fun c => by subst c; rw [upd_at] at ui; cases ui
    rw [upd_ne _ _ hia] at ui ki vi
    by_cases c : i = g
    · subst c; rw [upd_at] at ki vi; exact ⟨a, ha, ua, ki, vi⟩
    · rw [upd_ne _ _ c] at ui ki vi; exact ⟨i, hi, ui, ki, vi⟩
  · rintro ⟨i, hi, ui, ki, vi⟩
    have hig : i ≠ g := fun c => by subst c; rw [eg] at ui; cases ui
    by_cases c : i = a
    · subst c
      exact ⟨g, hg, by rw [upd_ne _ _ hga, upd_at]; exact ua, by rw [upd_ne _ _ hga, upd_at]; exact ki, by rw [upd_ne _ _ hga, upd_at]; exact vi⟩
    · exact ⟨i, hi, by rw [upd_ne _ _ c, upd_ne _ _ hig]; exact ui, by rw [upd_ne _ _ c, upd_ne _ _ hig]; exact ki, by rw [upd_ne _ _ c, upd_ne _ _ hig]; exact vi⟩
theorem cnt_same {t t' : Nat → Cl} : ∀ n, (∀ i, i < n → (t' i).u = (t i).u) → cnt t' n = cnt t n
  | 0, _ => rfl
  | n + 1, h => by rw [cnt, cnt, cnt_same n (fun i hi => h i (by omega)), h n (by omega)]
theorem cnt_upd {t : Nat → Cl} {a : Nat} {x : Cl} : ∀ n, a < n → cnt (upd t a x) n + (if (t a).u then 1 else 0) = cnt t n + (if x.u then 1 else 0)
  | n + 1, h => by
    rw [cnt, cnt]
    by_cases c : a = n
    · subst c
      rw [upd_at, cnt_same a (t' := upd t a x) (t := t) (fun i hi => by rw [upd_ne _ _ (by omega)])]
      omega
    · have := cnt_upd (t := t) (a := a) (x := x) n (by omega)
      rw [upd_ne _ _ (by omega : n ≠ a)]
      omega
theorem cnt_move {t : Nat → Cl} {n g a : Nat} (hg : g < n) (ha : a < n) (hga : g ≠ a) (eg : (t g).u = false) (ua : (t a).u = true) : cnt (upd (upd t g (t a)) a zc) n = cnt t n := by
  have h1 := cnt_upd (t := t) (a := g) (x := t a) n hg
  have h2 := cnt_upd (t := upd t g (t a)) (a := a) (x := zc) n ha
  rw [upd_ne _ _ (Ne.symm hga), ua] at h2
  rw [eg, ua] at h1
  have e : zc.u = false := rfl
  rw [e] at h2
  simp at h1 h2
  omega
theorem Gp.run {n b : Nat} (hb : b < n) : ∀ (f k g R : Nat) (t : Nat → Cl) (r : Nat → Nat), Gp n b g k R t r → f + k = n →
    (∃ r', Inv n (dl n b f k g t).1 r') ∧ (∀ key v, has (dl n b f k g t).1 n key v ↔ has t n key v) ∧ cnt (dl n b f k g t).1 n = cnt t n
  | 0, k, g, R, t, r, h, hk => ⟨⟨r, h.stop hb (Or.inl (by omega))⟩, fun _ _ => Iff.rfl, rfl⟩
  | f + 1, k, g, R, t, r, h, hk => by
    obtain ⟨o1, o2⟩ := off_k hb (show k < n by omega)
    have hga : g ≠ (b + k) % n := fun c => by have := h.gl; rw [c, o1] at this; omega
    unfold dl
    cases hu : (t ((b + k) % n)).u
    · simp only [Bool.false_eq_true, if_false]
      exact ⟨⟨r, h.stop hb (Or.inr ⟨_, o2, o1, hu⟩)⟩, fun _ _ => trivial, trivial⟩
    · simp only [if_true]
      cases hm : mv t n g ((b + k) % n)
      · simp only [Bool.false_eq_true, if_false]
        exact Gp.run hb f (k + 1) g R t r (h.stay hb o2 o1 (fun c => by rw [(mv_ds h.gn o2 hga).2 c] at hm; cases hm)) (by omega)
      · simp only [if_true]
        have := Gp.run hb f (k + 1) _ _ _ _ (h.move hb o2 o1 hu ((mv_ds h.gn o2 hga).1 hm)) (by omega)
        refine ⟨this.1, fun key v => (this.2.1 key v).trans (has_move h.gn o2 hga h.e hu key v), this.2.2.trans (cnt_move h.gn o2 hga h.e hu)⟩
theorem isF_spec {t : Nat → Cl} {n : Nat} {key : Int} (h : isF t n key = true) : ∃ i, i < n ∧ fgap t n key = i ∧ (fnd t n key).1 = (i : Int) ∧ (t i).u = true ∧ (t i).k = key := by
  rcases fnd_spec t n key with ⟨m, hm1, hf, hh, hno⟩ | ⟨hf, hno⟩
  · have hu : (t (atk n key m)).u = true := by rw [← isF_hit hf]; exact h
    unfold hit at hh
    rw [hu] at hh
    refine ⟨atk n key m, (atk_ds hm1).2, ?_, by rw [hf], hu, by simpa using hh⟩
    unfold fgap; rw [hf]; simp
  · rw [isF_no hf] at h; cases h
theorem Inv.del {n : Nat} {t : Nat → Cl} {r : Nat → Nat} (h : Inv n t r) (key : Int) :
    (∃ r', Inv n (Lc.del t n key) r') ∧ (isF t n key = true → (∀ k v, has (Lc.del t n key) n k v ↔ k ≠ key ∧ has t n k v) ∧ cnt (Lc.del t n key) n + 1 = cnt t n) := by
  cases hF : isF t n key
  · have e : Lc.del t n key = t := by unfold Lc.del; rw [hF]; rfl
    rw [e]
    exact ⟨⟨r, h⟩, fun c => by cases c⟩
  · obtain ⟨i, hi, hg, hf, ui, ki⟩ := isF_spec hF
    have e : Lc.del t n key = (dl n i (n - 1) 1 i (upd t i zc)).1 := by unfold Lc.del dres; rw [hF, hg]; rfl
    rw [e]
    have hr := Gp.run hi (n - 1) 1 i (r i) (upd t i zc) r (Gp.start h hi ui) (by omega)
    refine ⟨hr.1, fun _ => ⟨fun k v => (hr.2.1 k v).trans ⟨?_, ?_⟩, ?_⟩⟩
    · rintro ⟨j, hj, uj, kj, vj⟩
      have hji : j ≠ i := fun c => by subst c; rw [upd_at] at uj; cases uj
      rw [upd_ne _ _ hji] at uj kj vj
      exact ⟨fun c => hji (h.uni hj hi uj ui (by rw [kj, ki, c])), j, hj, uj, kj, vj⟩
    · rintro ⟨hk, j, hj, uj, kj, vj⟩
      have hji : j ≠ i := fun c => by subst c; exact hk (by rw [← kj, ki])
      exact ⟨j, hj, by rw [upd_ne _ _ hji]; exact uj, by rw [upd_ne _ _ hji]; exact kj, by rw [upd_ne _ _ hji]; exact vj⟩
    · rw [hr.2.2]
      have := cnt_upd (t := t) (a := i) (x := zc) n hi
      rw [ui] at this
      have e2 : zc.u = false := rfl
      rw [e2] at this
      simpa using this
theorem Inv.st {n : Nat} {t : Nat → Cl} (h : ∃ r, Inv n t r) (d a v : Int) : ∃ r, Inv n (st t n d a v) r := by
  obtain ⟨r, h⟩ := h
  unfold Lc.st
  repeat' split
  · exact h.put a v
  · exact ⟨r, h⟩
  · exact (h.del a).1
  · exact ⟨r, h⟩
  · exact ⟨r, h⟩
end Lc
end Go.Proofs.Ytgdfbpphfanocaa
