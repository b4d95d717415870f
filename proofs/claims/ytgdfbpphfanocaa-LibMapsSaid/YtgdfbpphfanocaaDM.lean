/- A map of Go and the keys of a table. -/
import Derived.Test.YtgdfbpphfanocaaDQ
import Derived.Maps.Own
import Derived.Maps.OwnOps
import Derived.Maps.OwnSet
import Derived.Maps.Views
set_option linter.unusedVariables false
set_option linter.unusedSimpArgs false
namespace Go.Proofs.Ytgdfbpphfanocaa
open Go.Maps Go.RowKit Go.Sort
namespace Lc

/-- the map D holds the keys of the table t -/
structure Rel (n : Nat) (t : Nat → Cl) (D : DataW Unit) : Prop where
  tidy : Maps.Tidy D
  is_ : ∀ key, Maps.has D (.int .i64 key) = true → ∃ v, has t n key v
  at_ : ∀ key v, has t n key v → Maps.has D (.int .i64 key) = true ∧ ∀ z, D.atKey (.int .i64 key) z = .lit (.int .i64 v)
  sz : Maps.size D = cnt t n
theorem keyLit (a : Int) : WideAt.IsKeyLit (.int .i64 a) := by simp [WideAt.IsKeyLit]
theorem lit_ne {a b : Int} (h : a ≠ b) : (Lit.int .i64 a) ≠ .int .i64 b := fun e => by injection e; contradiction
theorem cnt_zero : ∀ n, cnt zero n = 0
  | 0 => rfl
  | n + 1 => by rw [cnt, cnt_zero n]; rfl
theorem Rel.start (n : Nat) : Rel n zero (.map []) :=
  ⟨tidy_empty, fun key h => (by simp [Maps.has] at h), fun key v ⟨i, _, ui, _⟩ => (by cases ui), by rw [cnt_zero]; rfl⟩
theorem isF_of {n : Nat} {t : Nat → Cl} {r : Nat → Nat} (h : Inv n t r) {key v : Int} (hh : has t n key v) : isF t n key = true ∧ getV t n key = v ∧ getE t n key = 0 := by
  obtain ⟨i, hi, ui, ki, vi⟩ := hh
  have hf := h.found hi ui
  rw [ki] at hf
  refine ⟨hf.2, ?_, ?_⟩
  · unfold getV; rw [hf.2, hf.1]; simpa using vi
  · unfold getE; rw [hf.2]; rfl
theorem has_of {t : Nat → Cl} {n : Nat} {key : Int} (h : isF t n key = true) : has t n key (getV t n key) := by
  obtain ⟨i, hi, hg, hf, ui, ki⟩ := isF_spec h
  refine ⟨i, hi, ui, ki, ?_⟩
  unfold getV; rw [h, hf]; simp
theorem Rel.has_eq {n : Nat} {t : Nat → Cl} {r : Nat → Nat} {D : DataW Unit} (h : Rel n t D) (hI : Inv n t r) (key : Int) : Maps.has D (.int .i64 key) = isF t n key := by
  cases hd : Maps.has D (.int .i64 key)
  · cases hf : isF t n key
    · rfl
    · have := (h.at_ key _ (has_of hf)).1; rw [hd] at this; cases this
  · obtain ⟨v, hv⟩ := h.is_ key hd
    exact (isF_of hI hv).1.symm
theorem Rel.val {n : Nat} {t : Nat → Cl} {D : DataW Unit} (h : Rel n t D) {key : Int} (hF : isF t n key = true) (z : DataW Unit) : D.atKey (.int .i64 key) z = .lit (.int .i64 (getV t n key)) := (h.at_ key _ (has_of hF)).2 z
theorem has_put {n : Nat} {t : Nat → Cl} {r : Nat → Nat} (h : Inv n t r) {key : Int} {m : Nat} (hm : m < n) (hf : fnd t n key = ((atk n key m : Int), (m : Int) + 1)) (hh : hit t n key m = true) (v k' v' : Int) :
    has (put t n key v) n k' v' ↔ (k' = key ∧ v' = v) ∨ (k' ≠ key ∧ has t n k' v') := by
  rw [put_same hf]
  obtain ⟨-, ha⟩ := atk_ds (key := key) hm
  obtain ⟨x, hx⟩ : ∃ x, x = atk n key m := ⟨_, rfl⟩
  have hh2 : (!(t x).u || (t x).k == key) = true := by rw [hx]; exact hh
  rw [← hx] at ha ⊢
  rw [← hx] at hf
  constructor
  · rintro ⟨i, hi, ui, ki, vi⟩
    by_cases c : i = x
    · subst c; rw [upd_at] at ki vi; exact Or.inl ⟨ki.symm, vi.symm⟩
    · rw [upd_ne _ _ c] at ui ki vi
      by_cases ck : k' = key
      · have hff := (h.found hi ui).1
        rw [ki, ck, hf] at hff
        simp only [Prod.mk.injEq] at hff
        omega
      · exact Or.inr ⟨ck, i, hi, ui, ki, vi⟩
  · rintro (⟨rfl, rfl⟩ | ⟨ck, i, hi, ui, ki, vi⟩)
    · exact ⟨x, ha, by rw [upd_at], by rw [upd_at], by rw [upd_at]⟩
    · have c : i ≠ x := fun c => by
        subst c
        rw [ui] at hh2
        simp at hh2
        exact ck (by rw [← ki, hh2])
      exact ⟨i, hi, by rw [upd_ne _ _ c]; exact ui, by rw [upd_ne _ _ c]; exact ki, by rw [upd_ne _ _ c]; exact vi⟩
theorem cnt_put {n : Nat} {t : Nat → Cl} {key : Int} {m : Nat} (hm : m < n) (hf : fnd t n key = ((atk n key m : Int), (m : Int) + 1)) (v : Int) : cnt (put t n key v) n = if isF t n key then cnt t n else cnt t n + 1 := by
  rw [put_same hf, isF_hit hf]
  have := cnt_upd (t := t) (a := atk n key m) (x := ⟨true, key, v⟩) n (atk_ds hm).2
  simp only [if_true] at this
  cases hu : (t (atk n key m)).u
  · rw [hu] at this; simp at this ⊢; omega
  · rw [hu] at this; simp at this ⊢; omega
theorem fnd_put {t : Nat → Cl} {n : Nat} {key : Int} (h : ¬ (fnd t n key).1 < 0) : ∃ m, m < n ∧ fnd t n key = ((atk n key m : Int), (m : Int) + 1) ∧ hit t n key m = true := by
  rcases fnd_spec t n key with ⟨m, hm1, hf, hh, hno⟩ | ⟨hf, hno⟩
  · exact ⟨m, hm1, hf, hh⟩
  · rw [hf] at h; exact absurd (show (-1 : Int) < 0 by omega) h
theorem Rel.put {n : Nat} {t : Nat → Cl} {r : Nat → Nat} {D : DataW Unit} (h : Rel n t D) (hI : Inv n t r) (key v : Int) (hp : ¬ (fnd t n key).1 < 0) : Rel n (Lc.put t n key v) (D.put (.int .i64 key) (.lit (.int .i64 v))) := by
  obtain ⟨m, hm, hf, hh⟩ := fnd_put hp
  have hP := has_put hI hm hf hh v
  refine ⟨h.tidy.put (keyLit _) _, fun k' hk' => ?_, fun k' v' hv' => ?_, ?_⟩
  · by_cases c : k' = key
    · exact ⟨v, (hP k' v).2 (Or.inl ⟨c, rfl⟩)⟩
    · rw [has_put_other (lit_ne c)] at hk'
      obtain ⟨v', hv'⟩ := h.is_ k' hk'
      exact ⟨v', (hP k' v').2 (Or.inr ⟨c, hv'⟩)⟩
  · rcases (hP k' v').1 hv' with ⟨rfl, rfl⟩ | ⟨c, hv⟩
    · exact ⟨has_put_same h.tidy.isMap (keyLit _) _, fun z => atKey_put_same h.tidy.isMap (keyLit _) _ z⟩
    · obtain ⟨q1, q2⟩ := h.at_ k' v' hv
      exact ⟨by rw [has_put_other (lit_ne c)]; exact q1, fun z => by rw [atKey_put_other (lit_ne c)]; exact q2 z⟩
  · rw [size_put h.tidy, h.has_eq hI, cnt_put hm hf, h.sz]
theorem Rel.del {n : Nat} {t : Nat → Cl} {r : Nat → Nat} {D : DataW Unit} (h : Rel n t D) (hI : Inv n t r) (key : Int) : Rel n (Lc.del t n key) (D.del (.int .i64 key)) := by
  cases hF : isF t n key
  · have e : Lc.del t n key = t := by unfold Lc.del; rw [hF]; rfl
    rw [e, del_of_not_has (by rw [h.has_eq hI, hF])]
    exact h
  · obtain ⟨hP, hc⟩ := (hI.del key).2 hF
    refine ⟨h.tidy.del _, fun k' hk' => ?_, fun k' v' hv' => ?_, ?_⟩
    · by_cases c : k' = key
      · subst c; rw [has_del_same] at hk'; cases hk'
      · rw [has_del_other (lit_ne c)] at hk'
        obtain ⟨v', hv'⟩ := h.is_ k' hk'
        exact ⟨v', (hP k' v').2 ⟨c, hv'⟩⟩
    · obtain ⟨c, hv⟩ := (hP k' v').1 hv'
      obtain ⟨q1, q2⟩ := h.at_ k' v' hv
      exact ⟨by rw [has_del_other (lit_ne c)]; exact q1, fun z => by rw [atKey_del_other (lit_ne c)]; exact q2 z⟩
    · have := size_del h.tidy (k := .int .i64 key)
      rw [h.has_eq hI, hF, h.sz] at this
      simp only [if_true] at this
      omega
theorem cnt_all {t : Nat → Cl} : ∀ n, (∀ i, i < n → (t i).u = true) → cnt t n = n
  | 0, _ => rfl
  | n + 1, h => by rw [cnt, cnt_all n (fun i hi => h i (by omega)), h n (by omega)]; rfl
theorem full {t : Nat → Cl} {n : Nat} {key : Int} (h : (fnd t n key).1 < 0) : isF t n key = false ∧ cnt t n = n := by
  rcases fnd_spec t n key with ⟨m, hm1, hf, hh, hno⟩ | ⟨hf, hno⟩
  · rw [hf] at h; exact absurd h (by simp only []; omega)
  · refine ⟨isF_no hf, cnt_all n (fun i hi => ?_)⟩
    have h0 := Int.emod_nonneg key (b := (n : Int)) (by omega)
    have h1 := Int.emod_lt_of_pos key (b := (n : Int)) (by omega)
    have hd := ds_lt (show (key % (n : Int)).toNat < n by omega) hi
    have := (hit_no (hno _ hd)).1
    rw [ds_atk hi] at this
    exact this
theorem law3 : Keyed Try.prog 3 := int_keyed Try.underlying3
theorem zero3 (w : World) : (zeroValue 3).run Try.prog w = .ok (.int .i64 0) w := by kernel_rfl
abbrev Owns (w : World) (b n : Nat) (D : DataW Unit) : Prop := w.ownsMap Try.prog 3 (plainElem Try.prog 3) b n D
theorem own_chg {w w' : World} {b c n : Nat} {D : DataW Unit} (h : Owns w b n D) (g : Chg c w w') (hne : b ≠ c) : Owns w' b n D := by
  have hlt := h.lt
  obtain ⟨es, clock, hb, F, hs, hD⟩ := h
  exact ⟨es, clock, (g.block b hlt hne).trans hb, F, hs, hD⟩
theorem own_below {w w' : World} {b n : Nat} {D : DataW Unit} (h : Owns w b n D) (g : Below w.heap.size w w') : Owns w' b n D := by
  have hlt := h.lt
  obtain ⟨es, clock, hb, F, hs, hD⟩ := h
  exact ⟨es, clock, (g.block b hlt).trans hb, F, hs, hD⟩
theorem Chg.of_grown {c : Nat} {w w' : World} (h : w.grownBy w' (some c)) : Chg c w w' :=
  ⟨h.size, fun p hp hc => h.block p hp (by intro e; injection e; contradiction), fun B hB hB2 => ⟨h.os, h.tape, h.output, h.size, fun k hk => h.block k (Nat.lt_of_lt_of_le hk hB2) (by intro e; injection e; omega)⟩⟩
theorem Tab.chg' {w w' : World} {b c d n : Nat} {t : Nat → Cl} (h : Tab w b c n t) (g : Chg d w w') (h1 : b ≠ d) (h2 : c ≠ d) : Tab w' b c n t := h.chg g h1 h2
theorem put_full {t : Nat → Cl} {n : Nat} {key v : Int} (h : (fnd t n key).1 < 0) : put t n key v = t ∧ putE t n key = 14 := by
  unfold Lc.put putE; rw [if_pos h, if_pos h]; exact ⟨rfl, rfl⟩
theorem putE_ok {t : Nat → Cl} {n : Nat} {key : Int} (h : ¬ (fnd t n key).1 < 0) : putE t n key = 0 := by
  unfold putE; rw [if_neg h]
theorem getE_eq {t : Nat → Cl} {n : Nat} {key : Int} {b : Bool} (h : isF t n key = b) : getE t n key = if b then 0 else 3 := by unfold getE; rw [h]
end Lc
end Go.Proofs.Ytgdfbpphfanocaa
