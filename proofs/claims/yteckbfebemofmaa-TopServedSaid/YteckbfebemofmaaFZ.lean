/- A region that draws its order, by what holds whatever has been done. -/
import Derived.Test.YteckbfebemofmaaFY
set_option linter.unusedVariables false
set_option linter.unusedSimpArgs false
namespace Go.Proofs.Yteckbfebemofmaa
open Go.RowKit
namespace Fw
section
variable {P : Program} {ops : Array Oper} {Q : Exit → Act → World → Prop} {n : Nat} {l l0 : List (Nat × Value)} {w w0 : World}
def updD (D : Nat → Bool) (i : Nat) : Nat → Bool := fun j => match Nat.beq j i with
  | true => true
  | false => D j
theorem updD_same (D : Nat → Bool) (i : Nat) : updD D i i = true := by
  unfold updD; rw [show Nat.beq i i = true from Nat.beq_refl i]
theorem updD_ne {D : Nat → Bool} {i j : Nat} (h : j ≠ i) : updD D i j = D j := by
  unfold updD
  cases hb : Nat.beq j i
  · rfl
  · exact absurd (Nat.eq_of_beq_eq_true hb) h
/-- every edge goes back -/
def backB (ops : List Oper) : Bool := ops.zipIdx.all fun p => p.1.after.toList.all fun e => !Region.binds .any e || Nat.blt e.on p.2
theorem any_inv (I : (Nat → Bool) → Act → World → Prop) (hback : ∀ (i : Nat) (o : Oper), ops[i]? = some o → ∀ e ∈ o.after, Region.binds .any e = true → e.on < i)
    (hstep : ∀ D a w i o, I D a w → ops[i]? = some o → D i = false → (∀ e ∈ o.after, Region.binds .any e = true → D e.on = true) → wpOp P ops Q i (I (updD D i)) a w)
    (hend : ∀ D a w, I D a w → (∀ i, i < ops.size → D i = true) → Q .normal a w) :
    ∀ (fuel : Nat) (listed : Array Bool) (a : Act) (w : World), listed.size = ops.size → (listed.toList.filter (! ·)).length ≤ fuel → I (fun j => listed.getD j false) a w → wpAny P .any ops Q fuel listed a w := by
  have hdone : ∀ (listed : Array Bool), listed.size = ops.size → Region.ready .any ops listed = [] → ∀ i, i < ops.size → listed.getD i false = true := by
    intro listed hsz hr i
    induction i using Nat.strongRecOn with
    | _ i ih =>
      intro hi
      cases hl : listed.getD i false with
      | true => rfl
      | false =>
        exfalso
        have hmem : i ∈ Region.ready .any ops listed := by
          rw [mem_ready]
          refine ⟨?_, ops[i], Array.getElem?_eq_getElem hi, fun e he hb => ?_⟩
          · have hi' : i < listed.size := by omega
            simp [hi'] at hl ⊢
            exact hl
          · have := hback i ops[i] (Array.getElem?_eq_getElem hi) e he hb
            exact ih e.on this (by omega)
        rw [hr] at hmem; cases hmem
  intro fuel
  induction fuel with
  | zero =>
    intro listed a w hsz hcnt hI
    have hall : ∀ i, i < listed.size → listed.getD i false = true := by
      intro i hi
      have h0 : listed.toList.filter (! ·) = [] := List.length_eq_zero_iff.1 (by omega)
      rw [List.filter_eq_nil_iff] at h0
      have := h0 listed[i] (by simp)
      simpa [hi] using this
    have hr : Region.ready .any ops listed = [] := by
      refine List.eq_nil_iff_forall_not_mem.2 fun j hj => ?_
      rw [mem_ready] at hj
      obtain ⟨h1, o, ho, -⟩ := hj
      have hj' : j < listed.size := by rw [hsz]; exact (Array.getElem?_eq_some_iff.1 ho).1
      have := hall j hj'
      simp [hj'] at h1 this
      rw [h1] at this; cases this
    exact ⟨hr, hend _ a w hI fun i hi => hall i (by omega)⟩
  | succ fuel ih =>
    intro listed a w hsz hcnt hI
    refine ⟨fun hr => hend _ a w hI fun i hi => hdone listed hsz hr i hi, fun i hi => ?_⟩
    have hi' := hi
    rw [mem_ready] at hi
    obtain ⟨h1, o, ho, hdep⟩ := hi
    have hlt : i < ops.size := (Array.getElem?_eq_some_iff.1 ho).1
    have hlt' : i < listed.size := by omega
    have hf : listed[i] = false := by simpa [hlt'] using h1
    have hD : ∀ j, (listed.setIfInBounds i true).getD j false = updD (fun j => listed.getD j false) i j := by
      intro j
      by_cases e : j = i
      · subst e; rw [updD_same]; simp [hlt']
      · rw [updD_ne e, getD_set_ne false (Ne.symm e)]
    refine wpOp_mono (fun a' w' h => ih (listed.setIfInBounds i true) a' w' (by simpa using hsz) ?_ ?_) (hstep _ a w i o hI ho (by simpa [hlt'] using hf) hdep)
    · have hset : (listed.setIfInBounds i true).toList = listed.toList.take i ++ true :: listed.toList.drop (i + 1) := by
        rw [Array.toList_setIfInBounds, List.set_eq_take_append_cons_drop]
        simp [hlt']
      have hold : listed.toList = listed.toList.take i ++ false :: listed.toList.drop (i + 1) := by
        have q : listed.toList[i]'(by simpa using hlt') = false := by simpa using hf
        have q2 := (List.take_append_drop i listed.toList).symm
        rw [List.drop_eq_getElem_cons (by simpa using hlt'), q] at q2
        exact q2
      rw [hset]
      rw [hold] at hcnt
      simp only [List.filter_append, List.length_append, List.filter_cons] at hcnt ⊢
      simp at hcnt ⊢
      omega
    · rw [show (fun j => (listed.setIfInBounds i true).getD j false) = updD (fun j => listed.getD j false) i from funext hD]
      exact h
def distB : List Oper → Bool
  | [] => true
  | o :: r => (match o.dst with
    | none => true
    | some d => r.all fun o' => match o'.dst with
      | some d' => !Nat.beq d d'
      | none => true) && distB r
theorem distB_spec : ∀ {ls : List Oper}, distB ls = true → ∀ (i j : Nat) (o o' : Oper) (d : Nat), i < j → ls[i]? = some o → ls[j]? = some o' → o.dst = some d → o'.dst ≠ some d
  | [], _, i, j, o, o', d, _, h, _, _ => by simp at h
  | x :: r, hb, 0, j + 1, o, o', d, _, h, h', hd => by
    simp at h; subst h
    simp only [distB, hd, Bool.and_eq_true] at hb
    have hm : o' ∈ r := List.mem_of_getElem? (by simpa using h')
    have := List.all_eq_true.1 hb.1 o' hm
    intro e
    rw [e] at this
    simp only [] at this
    rw [show Nat.beq d d = true from Nat.beq_refl d] at this
    cases this
  | x :: r, hb, i + 1, j + 1, o, o', d, hij, h, h', hd => by
    simp only [distB, Bool.and_eq_true] at hb
    exact distB_spec hb.2 i j o o' d (by omega) (by simpa using h) (by simpa using h') hd
  | x :: r, hb, _, 0, o, o', d, hij, _, _, _ => by omega
/-- the slots of the frame that no operation of the region writes -/
def freeB (ops : List Oper) (l0 : List (Nat × Value)) : Bool := l0.all fun p => ops.all fun o => match o.dst with
  | some d => !Nat.beq d p.1
  | none => true
def depEnv (ops : Array Oper) (vs : List Value) (o : Oper) : List (Nat × Value) :=
  o.after.toList.filterMap fun e => match Region.binds .any e with
    | true => ((ops[e.on]?).bind (·.dst)).map fun d => (d, (vs[e.on]?).getD undef)
    | false => none
theorem look_append {l l' : List (Nat × Value)} {t : Nat} {v : Value} (h : look (l ++ l') t = some v) : (t, v) ∈ l ∨ look l' t = some v := by
  induction l with
  | nil => exact .inr h
  | cons p r ih =>
    obtain ⟨s, u⟩ := p
    have h' : look ((s, u) :: (r ++ l')) t = some v := h
    by_cases e : s = t
    · subst e; rw [look_cons_eq] at h'; cases h'; exact .inl (by simp)
    · rw [look_cons_ne e] at h'
      rcases ih h' with q | q
      · exact .inl (by simp [q])
      · exact .inr q
theorem look_mem {l : List (Nat × Value)} {t : Nat} {v : Value} (h : look l t = some v) : (t, v) ∈ l := by
  have : look (l ++ []) t = some v := by simpa using h
  rcases look_append this with q | q
  · exact q
  · cases q
/-- the operations done are closed under what stands before them -/
def Clo (ops : Array Oper) (D : Nat → Bool) : Prop := ∀ (j : Nat) (o : Oper), ops[j]? = some o → D j = true → ∀ e ∈ o.after, Region.binds .any e = true → D e.on = true
/-- What is asked of one operation: whatever has been done, it yields its value and hands on what holds. γ: what the order chooses. -/
def OpOk {γ : Type} (P : Program) (ops : Array Oper) (l0 : List (Nat × Value)) (vs : γ → List Value) (WI : γ → (Nat → Bool) → World → Prop) (i : Nat) (o : Oper) : Prop :=
  ∀ g D w, D i = false → (∀ e ∈ o.after, Region.binds .any e = true → D e.on = true) → Clo ops D → WI g D w →
    (wants ops (depEnv ops (vs g) o ++ l0) o = some true ∧ known (depEnv ops (vs g) o ++ l0) o = true ∧
      ((∃ g' w', (∀ j, D j = true → (vs g')[j]? = (vs g)[j]?) ∧ (execOp (evD (depEnv ops (vs g) o ++ l0)) o).run P w = .ok (.value (((vs g')[i]?).getD undef)) w' ∧ WI g' (updD D i) w') ∨
       (∃ w', (execOp (evD (depEnv ops (vs g) o ++ l0)) o).run P w = .ok .skip w' ∧ o.dst = none ∧ WI g (updD D i) w') ∨
       (∃ f args, (execOp (evD (depEnv ops (vs g) o ++ l0)) o).run P w = .ok (.enter f args) w ∧ Calls P f args w fun e w' => ∃ g', (∀ j, D j = true → (vs g')[j]? = (vs g)[j]?) ∧ e = .returned (((vs g')[i]?).getD undef) ∧ WI g' (updD D i) w'))) ∨
    (wants ops (depEnv ops (vs g) o ++ l0) o = some false ∧ ((vs g)[i]?).getD undef = undef ∧ WI g (updD D i) w)
inductive AllOk {γ : Type} (P : Program) (ops : Array Oper) (l0 : List (Nat × Value)) (vs : γ → List Value) (WI : γ → (Nat → Bool) → World → Prop) : Nat → List Oper → Prop
  | nil (k : Nat) : AllOk P ops l0 vs WI k []
  | cons {k : Nat} {o : Oper} {r : List Oper} (h : OpOk P ops l0 vs WI k o) (t : AllOk P ops l0 vs WI (k + 1) r) : AllOk P ops l0 vs WI k (o :: r)
theorem AllOk.get {γ : Type} {vs : γ → List Value} {WI : γ → (Nat → Bool) → World → Prop} : ∀ {ls : List Oper} {k i : Nat} {o : Oper}, AllOk P ops l0 vs WI k ls → ls[i]? = some o → OpOk P ops l0 vs WI (k + i) o
  | [], _, i, _, _, h => by simp at h
  | x :: r, k, 0, o, h, hi => by cases h; simp at hi; subst hi; simpa
  | x :: r, k, i + 1, o, h, hi => by
    cases h with
    | cons h1 h2 =>
      have := AllOk.get h2 (i := i) (by simpa using hi)
      rw [show k + (i + 1) = k + 1 + i by omega]; exact this
/-- all that is known at the region's end -/
def allEnv (ls : List Oper) (vs : List Value) : List (Nat × Value) := (ls.zip vs).filterMap fun p => p.1.dst.map fun d => (d, p.2)
theorem WC.confG {γ : Type} {id : Nat} {ls : List Oper} (l0 : List (Nat × Value)) (vs : γ → List Value) (WI : γ → (Nat → Bool) → World → Prop) (g0 : γ) (hm : P.follows .mixedOrders = true)
    (hsub : Sub l0 l) (hb : backB ls = true) (hd : distB ls = true) (hf : freeB ls l0 = true) (hlen : ∀ g, (vs g).length = ls.length) (hn : (ls.all fun o => match o.dst with | some d => Nat.blt d n | none => true) = true)
    (h0 : WI g0 (fun _ => false) w.drew) (hops : AllOk P ls.toArray l0 vs WI 0 ls)
    (hend : ∀ g D w2, (∀ i, Nat.blt i ls.length = true → D i = true) → WI g D w2 → WQ Q .normal n (allEnv ls (vs g) ++ l0) w2) : WC P (.region id ls.toArray true) Q n l w := by
  intro a ha
  refine wp_region_any hm ?_
  have hdst : ∀ (i j : Nat) (o o' : Oper) (d : Nat), ls[i]? = some o → ls[j]? = some o' → o.dst = some d → o'.dst = some d → i = j := fun i j o o' d h1 h2 h3 h4 => by
    rcases Nat.lt_trichotomy i j with q | q | q
    · exact absurd h4 (distB_spec hd i j o o' d q h1 h2 h3)
    · exact q
    · exact absurd h3 (distB_spec hd j i o' o d q h2 h1 h4)
  have hfree : ∀ (i : Nat) (o : Oper) (d : Nat) (t : Nat) (v : Value), ls[i]? = some o → o.dst = some d → look l0 t = some v → d ≠ t := fun i o d t v h1 h2 h3 e => by
    have q := List.all_eq_true.1 (List.all_eq_true.1 hf (t, v) (look_mem h3)) o (List.mem_of_getElem? h1)
    rw [h2] at q
    simp only [] at q
    subst e
    rw [show Nat.beq d d = true from Nat.beq_refl d] at q
    cases q
  have hnn : ∀ (i : Nat) (o : Oper) (d : Nat), ls[i]? = some o → o.dst = some d → d < n := fun i o d h1 h2 => by
    have q := List.all_eq_true.1 hn o (List.mem_of_getElem? h1)
    rw [h2] at q
    exact Nat.le_of_ble_eq_true q
  let I : (Nat → Bool) → Act → World → Prop := fun D a w => ∃ g, a.tmps.size = n ∧ a.defers = [] ∧
    (∀ (j : Nat) (o : Oper) (d : Nat), ls[j]? = some o → D j = true → o.dst = some d → a.tmps[d]? = some (((vs g)[j]?).getD undef)) ∧ (∀ t v, look l0 t = some v → a.tmps[t]? = some v) ∧ Clo ls.toArray D ∧ WI g D w
  refine any_inv (ops := ls.toArray) I ?_ ?_ ?_ _ _ a _ (by simp) (by
    refine Nat.le_trans (List.length_filter_le _ _) ?_
    simp) ?_
  · intro i o ho e he hbe
    have hm' : (o, i) ∈ ls.zipIdx := by
      rw [List.mem_zipIdx_iff_getElem?]; simpa using ho
    have q := List.all_eq_true.1 (List.all_eq_true.1 hb (o, i) hm') e (by simpa using he)
    rw [hbe] at q
    simpa using q
  · rintro D a w i o ⟨g, i1, i2, i3, i4, i6, i5⟩ ho hDi hdep
    have ho' : ls[i]? = some o := by simpa using ho
    have hfr : Fr n (depEnv ls.toArray (vs g) o ++ l0) a := by
      refine ⟨i1, i2, fun t v ht => ?_⟩
      rcases look_append ht with q | q
      · obtain ⟨e, he, heq⟩ := List.mem_filterMap.1 q
        cases hbe : Region.binds .any e with
        | false => rw [hbe] at heq; cases heq
        | true =>
          rw [hbe] at heq
          simp only [] at heq
          cases hoe : ls.toArray[e.on]? with
          | none => rw [hoe] at heq; cases heq
          | some oe =>
            rw [hoe] at heq
            simp only [Option.bind_some] at heq
            cases hde : oe.dst with
            | none => rw [hde] at heq; cases heq
            | some d =>
              rw [hde] at heq
              simp only [Option.map_some, Option.some.injEq, Prod.mk.injEq] at heq
              obtain ⟨rfl, rfl⟩ := heq
              exact i3 e.on oe d (by simpa using hoe) (hdep e (by simpa using he) hbe) hde
      · exact i4 t v q
    have hclo : Clo ls.toArray (updD D i) := fun j oj hj hDj e he hbe => by
      by_cases q : j = i
      · subst q
        rw [ho] at hj; cases hj
        by_cases q2 : e.on = j
        · rw [q2]; exact updD_same D j
        · rw [updD_ne q2]; exact hdep e he hbe
      · rw [updD_ne q] at hDj
        by_cases q2 : e.on = i
        · rw [q2]; exact updD_same D i
        · rw [updD_ne q2]; exact i6 j oj hj hDj e he hbe
    have hnext : ∀ (g' : γ) (v : Value) (w' : World), (∀ j, D j = true → (vs g')[j]? = (vs g)[j]?) → (∀ d, o.dst = some d → v = ((vs g')[i]?).getD undef) → WI g' (updD D i) w' → I (updD D i) (a.put o.dst v) w' := fun g' v w' hg hv hW => by
      refine ⟨g', ?_, ?_, ?_, ?_, hclo, hW⟩
      · cases o.dst <;> simp [Act.put, i1]
      · cases o.dst <;> simp [Act.put, i2]
      · intro j oj d hj hDj hdj
        by_cases e : j = i
        · subst e
          rw [ho'] at hj; cases hj
          rw [hdj, ← hv d hdj]
          have := hnn _ _ _ ho' hdj
          simp [Act.put, i1, this]
        · rw [updD_ne e] at hDj
          have h1 := i3 j oj d hj hDj hdj
          rw [← hg j hDj] at h1
          cases hdo : o.dst with
          | none => simpa [Act.put] using h1
          | some d' =>
            have hne : d' ≠ d := fun q => e (hdst j i oj o d hj ho' hdj (by rw [hdo, q]))
            simp [Act.put, Array.getElem?_setIfInBounds_ne hne, h1]
      · intro t u hu
        cases hdo : o.dst with
        | none => simpa [Act.put] using i4 t u hu
        | some d' =>
          have hne := hfree i o d' t u ho' hdo hu
          simp [Act.put, Array.getElem?_setIfInBounds_ne hne, i4 t u hu]
    have hok := AllOk.get hops ho'
    rw [Nat.zero_add] at hok
    unfold wpOp
    simp only [ho]
    rcases hok g D w hDi hdep i6 i5 with ⟨h1, h2, h3⟩ | ⟨h1, h2, h3⟩
    · rw [if_pos (wants_spec hfr h1)]
      refine .inl ?_
      unfold Oper.wp
      rw [exec_known hfr h2]
      rcases h3 with ⟨g', w', hg, hr, hW⟩ | ⟨w', hr, hdn, hW⟩ | ⟨f, args, hr, hc⟩
      · rw [hr, Oper.upon_value]
        exact hnext g' _ _ hg (fun _ _ => rfl) hW
      · rw [hr, Oper.upon_skip]
        exact hnext g _ _ (fun _ _ => rfl) (fun d hd' => by rw [hdn] at hd'; cases hd') hW
      · rw [hr, Oper.upon_enter]
        refine hc.mono ?_
        rintro e w' ⟨g', hg, rfl, hW⟩
        exact hnext g' _ _ hg (fun _ _ => rfl) hW
    · rw [if_neg (by rw [wants_spec hfr h1]; exact Bool.false_ne_true)]
      exact hnext g _ _ (fun _ _ => rfl) (fun _ _ => h2.symm) h3
  · rintro D a w ⟨g, i1, i2, i3, i4, i6, i5⟩ hall
    refine hend g D w (fun i hi => hall i (by simpa using hi)) i5 a ⟨i1, i2, fun t v ht => ?_⟩
    rcases look_append ht with q | q
    · obtain ⟨⟨o, u⟩, hp, heq⟩ := List.mem_filterMap.1 q
      obtain ⟨j, hj⟩ := List.mem_iff_getElem?.1 hp
      rw [List.getElem?_zip_eq_some] at hj
      cases hdo : o.dst with
      | none => simp [hdo] at heq
      | some d =>
        simp [hdo] at heq
        obtain ⟨rfl, rfl⟩ := heq
        have := i3 j o d hj.1 (hall j (by have := (List.getElem?_eq_some_iff.1 hj.1).1; simpa using this)) hdo
        rw [hj.2] at this
        simpa using this
    · exact i4 t v q
  · have hno : ∀ j, (Array.replicate ls.toArray.size false).getD j false = true → False := fun j hDj' => by
      by_cases hj : j < ls.length
      · simp [hj] at hDj'
      · simp [hj] at hDj'
    refine ⟨g0, ha.sz, ha.df, fun j o d _ hDj _ => (hno j hDj).elim, fun t v ht => ha.kn t v (hsub.look ht), fun j o _ hDj => (hno j hDj).elim, ?_⟩
    · have : (fun j => (Array.replicate ls.toArray.size false).getD j false) = fun _ => false := by
        funext j
        by_cases hj : j < ls.length <;> simp [hj]
      rw [this]
      exact h0
end
theorem HP.perm {S : Nat → Prop} {w0 w : World} {H H' : List Ent} (h : HP S w0 w H) (hp : H.Perm H') : HP S w0 w H' :=
  ⟨h.os, h.tape, h.output, h.size, h.keep, fun e he => h.hold e (hp.mem_iff.2 he), fun e he => h.fresh e (hp.mem_iff.2 he), h.apart.perm hp (fun hq => hq.symm)⟩
end Fw
end Go.Proofs.Yteckbfebemofmaa
