/- A region that draws its order, and writes a slot that it has read. -/
import Derived.Test.YteckbfebemofmaaFZ
set_option linter.unusedVariables false
set_option linter.unusedSimpArgs false
namespace Go.Proofs.Yteckbfebemofmaa
open Go.RowKit
namespace Fw
section
variable {P : Program} {ops : Array Oper} {Q : Exit → Act → World → Prop} {n : Nat} {l l0 : List (Nat × Value)} {w w0 : World}
/-- as freeB; or the operation that writes the slot stands behind all others -/
def freeH (ls : List Oper) (l0 : List (Nat × Value)) : Bool := l0.all fun p => ls.zipIdx.all fun q => match q.1.dst with
  | some d => !Nat.beq d p.1 || (List.range ls.length).all fun i => Nat.beq i q.2 || q.1.after.any fun e => Region.binds .any e && Nat.beq e.on i
  | none => true
theorem look_append2 {l l' : List (Nat × Value)} {t : Nat} {v : Value} (h : look (l ++ l') t = some v) : (t, v) ∈ l ∨ (look l' t = some v ∧ ∀ u, (t, u) ∉ l) := by
  induction l with
  | nil => exact .inr ⟨h, fun u hu => by cases hu⟩
  | cons p r ih =>
    obtain ⟨s, u⟩ := p
    have h' : look ((s, u) :: (r ++ l')) t = some v := h
    by_cases e : s = t
    · subst e; rw [look_cons_eq] at h'; cases h'; exact .inl (by simp)
    · rw [look_cons_ne e] at h'
      rcases ih h' with q | ⟨q, q2⟩
      · exact .inl (by simp [q])
      · refine .inr ⟨q, fun x hx => ?_⟩
        rcases List.mem_cons.1 hx with hx | hx
        · cases hx; exact e rfl
        · exact q2 x hx
theorem WC.confH {γ : Type} {id : Nat} {ls : List Oper} (l0 : List (Nat × Value)) (vs : γ → List Value) (WI : γ → (Nat → Bool) → World → Prop) (g0 : γ) (hm : P.follows .mixedOrders = true)
    (hsub : Sub l0 l) (hb : backB ls = true) (hd : distB ls = true) (hf : freeH ls l0 = true) (hlen : ∀ g, (vs g).length = ls.length) (hn : (ls.all fun o => match o.dst with | some d => Nat.blt d n | none => true) = true)
    (h0 : WI g0 (fun _ => false) w.drew) (hops : AllOk P ls.toArray l0 vs WI 0 ls)
    (hend : ∀ g D w2, (∀ i, Nat.blt i ls.length = true → D i = true) → WI g D w2 → WQ Q .normal n (allEnv ls (vs g) ++ l0) w2) : WC P (.region id ls.toArray true) Q n l w := by
  intro a ha
  refine wp_region_any hm ?_
  have hdst : ∀ (i j : Nat) (o o' : Oper) (d : Nat), ls[i]? = some o → ls[j]? = some o' → o.dst = some d → o'.dst = some d → i = j := fun i j o o' d h1 h2 h3 h4 => by
    rcases Nat.lt_trichotomy i j with q | q | q
    · exact absurd h4 (distB_spec hd i j o o' d q h1 h2 h3)
    · exact q
    · exact absurd h3 (distB_spec hd j i o' o d q h2 h1 h4)
  have hfree : ∀ (j : Nat) (o : Oper) (t : Nat) (v : Value), ls[j]? = some o → o.dst = some t → look l0 t = some v → ∀ i, i < ls.length → i = j ∨ ∃ e ∈ o.after, Region.binds .any e = true ∧ e.on = i := fun j o t v h1 h2 h3 => by
    have q := List.all_eq_true.1 (List.all_eq_true.1 hf (t, v) (look_mem h3)) (o, j) (by rw [List.mem_zipIdx_iff_getElem?]; simpa using h1)
    simp only [h2] at q
    rw [show Nat.beq t t = true from Nat.beq_refl t] at q
    intro i hi
    simp at q
    rcases q i hi with q3 | ⟨k, hk, q4, q5⟩
    · exact .inl q3
    · exact .inr ⟨o.after[k], Array.getElem_mem hk, q4, q5⟩
  have hnn : ∀ (i : Nat) (o : Oper) (d : Nat), ls[i]? = some o → o.dst = some d → d < n := fun i o d h1 h2 => by
    have q := List.all_eq_true.1 hn o (List.mem_of_getElem? h1)
    rw [h2] at q
    exact Nat.le_of_ble_eq_true q
  let I : (Nat → Bool) → Act → World → Prop := fun D a w => ∃ g, a.tmps.size = n ∧ a.defers = [] ∧
    (∀ (j : Nat) (o : Oper) (d : Nat), ls[j]? = some o → D j = true → o.dst = some d → a.tmps[d]? = some (((vs g)[j]?).getD undef)) ∧ (∀ t v, look l0 t = some v → (∀ (j : Nat) (o : Oper), ls[j]? = some o → o.dst = some t → D j = false) → a.tmps[t]? = some v) ∧ Clo ls.toArray D ∧ WI g D w
  refine any_inv (ops := ls.toArray) I ?_ ?_ ?_ _ _ a _ (by simp) (by
    refine Nat.le_trans (List.length_filter_le _ _) ?_
    simp) ?_
  · intro i o ho e he hbe
    have hm' : (o, i) ∈ ls.zipIdx := by
      rw [List.mem_zipIdx_iff_getElem?]; simpa using ho
    have q := List.all_eq_true.1 (List.all_eq_true.1 hb (o, i) hm') e (by simpa using he)
    rw [hbe] at q
    simpa using q
  · rintro D a w i o ⟨g, i1, i2, i3, i4, i6, i5⟩ ho hDi hdep
    have ho' : ls[i]? = some o := by simpa using ho
    have hfr : Fr n (depEnv ls.toArray (vs g) o ++ l0) a := by
      refine ⟨i1, i2, fun t v ht => ?_⟩
      rcases look_append ht with q | q
      · obtain ⟨e, he, heq⟩ := List.mem_filterMap.1 q
        cases hbe : Region.binds .any e with
        | false => rw [hbe] at heq; cases heq
        | true =>
          rw [hbe] at heq
          simp only [] at heq
          cases hoe : ls.toArray[e.on]? with
          | none => rw [hoe] at heq; cases heq
          | some oe =>
            rw [hoe] at heq
            simp only [Option.bind_some] at heq
            cases hde : oe.dst with
            | none => rw [hde] at heq; cases heq
            | some d =>
              rw [hde] at heq
              simp only [Option.map_some, Option.some.injEq, Prod.mk.injEq] at heq
              obtain ⟨rfl, rfl⟩ := heq
              exact i3 e.on oe d (by simpa using hoe) (hdep e (by simpa using he) hbe) hde
      · refine i4 t v q fun j oj hj hdj => ?_
        cases hDj : D j with
        | false => rfl
        | true =>
          have hil : i < ls.length := (List.getElem?_eq_some_iff.1 ho').1
          rcases hfree j oj t v hj hdj q i hil with rfl | ⟨e, he, hbe, heq⟩
          · rw [hDi] at hDj; cases hDj
          · have := i6 j oj (by simpa using hj) hDj e he hbe
            rw [heq, hDi] at this; cases this
    have hclo : Clo ls.toArray (updD D i) := fun j oj hj hDj e he hbe => by
      by_cases q : j = i
      · subst q
        rw [ho] at hj; cases hj
        by_cases q2 : e.on = j
        · rw [q2]; exact updD_same D j
        · rw [updD_ne q2]; exact hdep e he hbe
      · rw [updD_ne q] at hDj
        by_cases q2 : e.on = i
        · rw [q2]; exact updD_same D i
        · rw [updD_ne q2]; exact i6 j oj hj hDj e he hbe
    have hnext : ∀ (g' : γ) (v : Value) (w' : World), (∀ j, D j = true → (vs g')[j]? = (vs g)[j]?) → (∀ d, o.dst = some d → v = ((vs g')[i]?).getD undef) → WI g' (updD D i) w' → I (updD D i) (a.put o.dst v) w' := fun g' v w' hg hv hW => by
      refine ⟨g', ?_, ?_, ?_, ?_, hclo, hW⟩
      · cases o.dst <;> simp [Act.put, i1]
      · cases o.dst <;> simp [Act.put, i2]
      · intro j oj d hj hDj hdj
        by_cases e : j = i
        · subst e
          rw [ho'] at hj; cases hj
          rw [hdj, ← hv d hdj]
          have := hnn _ _ _ ho' hdj
          simp [Act.put, i1, this]
        · rw [updD_ne e] at hDj
          have h1 := i3 j oj d hj hDj hdj
          rw [← hg j hDj] at h1
          cases hdo : o.dst with
          | none => simpa [Act.put] using h1
          | some d' =>
            have hne : d' ≠ d := fun q => e (hdst j i oj o d hj ho' hdj (by rw [hdo, q]))
            simp [Act.put, Array.getElem?_setIfInBounds_ne hne, h1]
      · intro t u hu hno
        have hne : o.dst ≠ some t := fun q => by
          have := hno i o ho' q
          rw [updD_same] at this; cases this
        have hq := i4 t u hu fun j oj hj hdj => by
          have := hno j oj hj hdj
          by_cases e : j = i
          · subst e; rw [updD_same] at this; cases this
          · rwa [updD_ne e] at this
        cases hdo : o.dst with
        | none => simpa [Act.put] using hq
        | some d' =>
          have hne2 : d' ≠ t := fun q => hne (by rw [hdo, q])
          simp [Act.put, Array.getElem?_setIfInBounds_ne hne2, hq]
    have hok := AllOk.get hops ho'
    rw [Nat.zero_add] at hok
    unfold wpOp
    simp only [ho]
    rcases hok g D w hDi hdep i6 i5 with ⟨h1, h2, h3⟩ | ⟨h1, h2, h3⟩
    · rw [if_pos (wants_spec hfr h1)]
      refine .inl ?_
      unfold Oper.wp
      rw [exec_known hfr h2]
      rcases h3 with ⟨g', w', hg, hr, hW⟩ | ⟨w', hr, hdn, hW⟩ | ⟨f, args, hr, hc⟩
      · rw [hr, Oper.upon_value]
        exact hnext g' _ _ hg (fun _ _ => rfl) hW
      · rw [hr, Oper.upon_skip]
        exact hnext g _ _ (fun _ _ => rfl) (fun d hd' => by rw [hdn] at hd'; cases hd') hW
      · rw [hr, Oper.upon_enter]
        refine hc.mono ?_
        rintro e w' ⟨g', hg, rfl, hW⟩
        exact hnext g' _ _ hg (fun _ _ => rfl) hW
    · rw [if_neg (by rw [wants_spec hfr h1]; exact Bool.false_ne_true)]
      exact hnext g _ _ (fun _ _ => rfl) (fun _ _ => h2.symm) h3
  · rintro D a w ⟨g, i1, i2, i3, i4, i6, i5⟩ hall
    refine hend g D w (fun i hi => hall i (by simpa using hi)) i5 a ⟨i1, i2, fun t v ht => ?_⟩
    rcases look_append2 ht with q | ⟨q, q5⟩
    · obtain ⟨⟨o, u⟩, hp, heq⟩ := List.mem_filterMap.1 q
      obtain ⟨j, hj⟩ := List.mem_iff_getElem?.1 hp
      rw [List.getElem?_zip_eq_some] at hj
      cases hdo : o.dst with
      | none => simp [hdo] at heq
      | some d =>
        simp [hdo] at heq
        obtain ⟨rfl, rfl⟩ := heq
        have := i3 j o d hj.1 (hall j (by have := (List.getElem?_eq_some_iff.1 hj.1).1; simpa using this)) hdo
        rw [hj.2] at this
        simpa using this
    · refine i4 t v q fun j o hj hdj => ?_
      exfalso
      have hvj : ∃ u, (vs g)[j]? = some u := ⟨(vs g)[j]'(by rw [hlen]; exact (List.getElem?_eq_some_iff.1 hj).1), List.getElem?_eq_getElem _⟩
      obtain ⟨u, hu⟩ := hvj
      exact q5 u (List.mem_filterMap.2 ⟨(o, u), List.mem_iff_getElem?.2 ⟨j, by rw [List.getElem?_zip_eq_some]; exact ⟨hj, hu⟩⟩, by simp [hdj]⟩)
  · have hno : ∀ j, (Array.replicate ls.toArray.size false).getD j false = true → False := fun j hDj' => by
      by_cases hj : j < ls.length
      · simp [hj] at hDj'
      · simp [hj] at hDj'
    refine ⟨g0, ha.sz, ha.df, fun j o d _ hDj _ => (hno j hDj).elim, fun t v ht _ => ha.kn t v (hsub.look ht), fun j o _ hDj => (hno j hDj).elim, ?_⟩
    · have : (fun j => (Array.replicate ls.toArray.size false).getD j false) = fun _ => false := by
        funext j
        by_cases hj : j < ls.length <;> simp [hj]
      rw [this]
      exact h0
end
end Fw
end Go.Proofs.Yteckbfebemofmaa
