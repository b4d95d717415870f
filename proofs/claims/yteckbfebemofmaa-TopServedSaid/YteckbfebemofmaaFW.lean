/- A walk over frames that are lists of pairs: its laws, over any program. -/
import Derived.Test.YteckbfebemofmaaProg
import Derived.WalkKit
import Derived.WalkLawsBesides
import Derived.Handy
import Derived.KernelRfl
import Derived.Still
import Derived.StillTail
import Derived.Lib.QuietBelow
import Derived.Deep.LoopGhost
import Derived.Deep.MidRow
import Derived.Great.BuildSlice
import Derived.Laws.Rows
import Derived.Laws.MakeOwn
import Derived.Laws.AppendOwn
import Derived.Orders
set_option linter.unusedVariables false
set_option linter.unusedSimpArgs false
namespace Go.Proofs.Yteckbfebemofmaa
open Go.RowKit
namespace Fw

/-- what a list of pairs says of a slot -/
def look : List (Nat × Value) → Nat → Option Value
  | [], _ => none
  | (s, v) :: r, t => match Nat.beq s t with
    | true => some v
    | false => look r t
/-- a frame of n slots, of which a list of pairs is known -/
structure Fr (n : Nat) (l : List (Nat × Value)) (a : Act) : Prop where
  sz : a.tmps.size = n
  df : a.defers = []
  kn : ∀ t v, look l t = some v → a.tmps[t]? = some v
def ev (l : List (Nat × Value)) : Operand → Option Value
  | .tmp t => look l t
  | .const v => some v
  | .global g => some (.pointer (some ⟨g, 0, none⟩))
  | .func f => some (.func (.func f) #[] #[])
def evD (l : List (Nat × Value)) (x : Operand) : Value := (ev l x).getD undef
theorem Fr.ev {n : Nat} {l : List (Nat × Value)} {a : Act} (h : Fr n l a) {x : Operand} {v : Value} (hx : ev l x = some v) : a.eval x = v := by
  cases x with
  | tmp t => simp [Act.eval, h.kn t v hx]
  | const u => simpa [Fw.ev, Act.eval] using hx
  | global g => simpa [Fw.ev, Act.eval] using hx
  | func f => simpa [Fw.ev, Act.eval] using hx
theorem Fr.evD {n : Nat} {l : List (Nat × Value)} {a : Act} (h : Fr n l a) {x : Operand} (hx : (Fw.ev l x).isSome = true) : a.eval x = Fw.evD l x := by
  obtain ⟨v, hv⟩ := Option.isSome_iff_exists.1 hx
  rw [h.ev hv, Fw.evD, hv]; rfl
theorem look_cons_ne {l : List (Nat × Value)} {s t : Nat} {v : Value} (h : s ≠ t) : look ((s, v) :: l) t = look l t := by
  show (match Nat.beq s t with | true => some v | false => look l t) = _
  cases hb : Nat.beq s t
  · rfl
  · exact absurd (Nat.eq_of_beq_eq_true hb) h
theorem look_cons_eq {l : List (Nat × Value)} {s : Nat} {v : Value} : look ((s, v) :: l) s = some v := by
  show (match Nat.beq s s with | true => some v | false => look l s) = _
  have : Nat.beq s s = true := Nat.beq_refl s
  rw [this]
theorem Fr.put {n : Nat} {l : List (Nat × Value)} {a : Act} (h : Fr n l a) {d : Nat} (hd : d < n) (v : Value) : Fr n ((d, v) :: l) (a.put (some d) v) := by
  refine ⟨by simp [Act.put, h.sz], by simp [Act.put, h.df], fun t u ht => ?_⟩
  by_cases e : d = t
  · subst e
    rw [look_cons_eq] at ht
    cases ht
    simp [Act.put, h.sz, hd]
  · rw [look_cons_ne e] at ht
    have := h.kn t u ht
    simp [Act.put, Array.getElem?_setIfInBounds_ne e, this]
theorem Fr.putNone {n : Nat} {l : List (Nat × Value)} {a : Act} (h : Fr n l a) (v : Value) : Fr n l (a.put none v) := h
/-- every pair of the first list is said by the second -/
def Sub : List (Nat × Value) → List (Nat × Value) → Prop
  | [], _ => True
  | (t, v) :: r, l => look l t = some v ∧ Sub r l
theorem Sub.look {l : List (Nat × Value)} {t : Nat} {v : Value} : ∀ {l' : List (Nat × Value)}, Sub l' l → Fw.look l' t = some v → Fw.look l t = some v
  | [], _, h => by cases h
  | (s, u) :: r, hs, h => by
    by_cases e : s = t
    · subst e; rw [look_cons_eq] at h; cases h; exact hs.1
    · rw [look_cons_ne e] at h; exact Sub.look hs.2 h
theorem Fr.sub {n : Nat} {l l' : List (Nat × Value)} {a : Act} (h : Fr n l a) (hs : Sub l' l) : Fr n l' a := ⟨h.sz, h.df, fun t v ht => h.kn t v (hs.look ht)⟩

/-! The goals of the walk. -/
def WL (P : Program) (ops : Array Oper) (Q : Exit → Act → World → Prop) (rest : List Oper) (n : Nat) (l : List (Nat × Value)) (w : World) : Prop := ∀ a, Fr n l a → wpList P ops Q rest a w
def WC (P : Program) (c : Code) (Q : Exit → Act → World → Prop) (n : Nat) (l : List (Nat × Value)) (w : World) : Prop := ∀ a, Fr n l a → Code.wp P c Q a w
def WQ (Q : Exit → Act → World → Prop) (e : Exit) (n : Nat) (l : List (Nat × Value)) (w : World) : Prop := ∀ a, Fr n l a → Q e a w
def WS (P : Program) (ops : Array Oper) (w : World) (Q : Act → Prop) (rest : List Oper) (n : Nat) (l : List (Nat × Value)) : Prop := ∀ a, Fr n l a → wpStill P ops w Q rest a
section
variable {P : Program} {ops : Array Oper} {Q : Exit → Act → World → Prop} {rest : List Oper} {n : Nat} {l l' : List (Nat × Value)} {w w' : World}
theorem WL.sub (hs : Sub l' l) (h : WL P ops Q rest n l' w) : WL P ops Q rest n l w := fun a ha => h a (ha.sub hs)
theorem WC.sub {c : Code} (hs : Sub l' l) (h : WC P c Q n l' w) : WC P c Q n l w := fun a ha => h a (ha.sub hs)
theorem WQ.sub {e : Exit} (hs : Sub l' l) (h : WQ Q e n l' w) : WQ Q e n l w := fun a ha => h a (ha.sub hs)

/-! Is an operation wanted? -/
def wants (ops : Array Oper) (l : List (Nat × Value)) (o : Oper) : Option Bool :=
  match o.guard with
  | none => some true
  | some (j, want) => match ((ops[j]?).bind (·.dst)).bind (look l) with
    | some (.bool b) => some (b == want)
    | some (.tuple _) => some false
    | _ => none
theorem wants_spec {a : Act} (ha : Fr n l a) {o : Oper} {b : Bool} (h : wants ops l o = some b) : Region.wanted o (yielded ops a.tmps) = b := by
  unfold wants at h
  unfold Region.wanted
  cases hg : o.guard with
  | none => rw [hg] at h; simpa using h
  | some jw =>
    obtain ⟨j, want⟩ := jw
    rw [hg] at h
    simp only [] at h ⊢
    cases ht : (ops[j]?).bind (·.dst) with
    | none => rw [ht] at h; cases h
    | some t =>
      rw [ht] at h
      simp only [Option.bind_some] at h
      cases hl : look l t with
      | none => rw [hl] at h; cases h
      | some u =>
        rw [hl] at h
        have hk := ha.kn t u hl
        cases u
        case bool c =>
          have : yielded ops a.tmps j = some c := by unfold yielded; rw [ht]; simp [hk]
          rw [this]
          simp only [] at h
          cases c <;> cases want <;> simpa using h
        case tuple xs =>
          have : yielded ops a.tmps j = none := by unfold yielded; rw [ht]; simp [hk]
          rw [this]
          simp only [] at h
          cases want <;> simpa using h
        all_goals (simp only [] at h; cases h)

/-! The operations. -/
def noSel : Op → Bool
  | .select _ _ => false
  | _ => true
def known (l : List (Nat × Value)) (o : Oper) : Bool := noSel o.op && o.op.operands.toList.all fun x => (ev l x).isSome
theorem exec_known {a : Act} (ha : Fr n l a) {o : Oper} (h : known l o = true) : execOp a.eval o = execOp (evD l) o := by
  unfold known at h
  rw [Bool.and_eq_true] at h
  refine execOp_congr o (fun cs b e => by rw [e] at h; exact absurd h.1 (by simp [noSel])) fun x hx => ha.evD ?_
  exact List.all_eq_true.1 h.2 x (by simpa using hx)
/-- An operation that yields a value. -/
theorem WL.val {o : Oper} {v : Value} (d : Nat) (hd : o.dst = some d) (hn : d < n) (hw : wants ops l o = some true) (hk : known l o = true)
    (hr : (execOp (evD l) o).run P w = .ok (.value v) w') (h : WL P ops Q rest n ((d, v) :: l) w') : WL P ops Q (o :: rest) n l w := by
  intro a ha
  refine wpList_step fun K hK => ?_
  rw [if_pos (wants_spec ha hw)]
  unfold Oper.wp
  rw [exec_known ha hk, hr, Oper.upon_value, hd]
  exact hK _ _ (h _ (ha.put hn v))
theorem WL.pure {o : Oper} {v : Value} (d : Nat) (hd : o.dst = some d) (hn : d < n) (hw : wants ops l o = some true) (hk : known l o = true)
    (hr : (execOp (evD l) o).run P w = .ok (.value v) w) (h : WL P ops Q rest n ((d, v) :: l) w) : WL P ops Q (o :: rest) n l w := WL.val d hd hn hw hk hr h
/-- One that yields a value that nobody takes. -/
theorem WL.valNone {o : Oper} {v : Value} (hd : o.dst = none) (hw : wants ops l o = some true) (hk : known l o = true)
    (hr : (execOp (evD l) o).run P w = .ok (.value v) w') (h : WL P ops Q rest n l w') : WL P ops Q (o :: rest) n l w := by
  intro a ha
  refine wpList_step fun K hK => ?_
  rw [if_pos (wants_spec ha hw)]
  unfold Oper.wp
  rw [exec_known ha hk, hr, Oper.upon_value, hd]
  exact hK _ _ (h _ ha)
/-- A store. -/
theorem WL.skip {o : Oper} (hd : o.dst = none) (hw : wants ops l o = some true) (hk : known l o = true)
    (hr : (execOp (evD l) o).run P w = .ok .skip w') (h : WL P ops Q rest n l w') : WL P ops Q (o :: rest) n l w := by
  intro a ha
  refine wpList_step fun K hK => ?_
  rw [if_pos (wants_spec ha hw)]
  unfold Oper.wp
  rw [exec_known ha hk, hr, Oper.upon_skip, hd]
  exact hK _ _ (h _ ha)
/-- One that its guard passes over. -/
theorem WL.pass {o : Oper} (d : Nat) (hd : o.dst = some d) (hn : d < n) (hw : wants ops l o = some false) (h : WL P ops Q rest n ((d, undef) :: l) w) : WL P ops Q (o :: rest) n l w := by
  intro a ha
  refine wpList_step fun K hK => ?_
  rw [if_neg (by rw [wants_spec ha hw]; exact Bool.false_ne_true), hd]
  exact hK _ _ (h _ (ha.put hn undef))
/-- A call. -/
theorem WL.call {o : Oper} {f : FuncId} {args : Array Value} (d : Nat) (hd : o.dst = some d) (hn : d < n) (hw : wants ops l o = some true) (hk : known l o = true)
    (hr : (execOp (evD l) o).run P w = .ok (.enter f args) w) (h : Calls P f args w fun e w'' => ∃ v, e = .returned v ∧ WL P ops Q rest n ((d, v) :: l) w'') : WL P ops Q (o :: rest) n l w := by
  intro a ha
  refine wpList_step fun K hK => ?_
  rw [if_pos (wants_spec ha hw)]
  unfold Oper.wp
  rw [exec_known ha hk, hr, Oper.upon_enter]
  refine h.mono ?_
  rintro e w'' ⟨v, rfl, hv⟩
  rw [hd]
  exact hK _ _ (hv _ (ha.put hn v))
theorem WL.callNone {o : Oper} {f : FuncId} {args : Array Value} (hd : o.dst = none) (hw : wants ops l o = some true) (hk : known l o = true)
    (hr : (execOp (evD l) o).run P w = .ok (.enter f args) w) (h : Calls P f args w fun e w'' => ∃ v, e = .returned v ∧ WL P ops Q rest n l w'') : WL P ops Q (o :: rest) n l w := by
  intro a ha
  refine wpList_step fun K hK => ?_
  rw [if_pos (wants_spec ha hw)]
  unfold Oper.wp
  rw [exec_known ha hk, hr, Oper.upon_enter]
  refine h.mono ?_
  rintro e w'' ⟨v, rfl, hv⟩
  rw [hd]
  exact hK _ _ (hv _ ha)
theorem WL.nil (h : WQ Q .normal n l w) : WL P ops Q [] n l w := fun a ha => h a ha

/-! The same in a region that draws its order, whose operations leave the world as it is. -/
theorem WS.val {o : Oper} {v : Value} {Q : Act → Prop} (d : Nat) (hd : o.dst = some d) (hn : d < n) (hw : wants ops l o = some true) (hk : known l o = true)
    (hr : (execOp (evD l) o).run P w = .ok (.value v) w) (h : WS P ops w Q rest n ((d, v) :: l)) : WS P ops w Q (o :: rest) n l := by
  intro a ha
  refine wpStill_step fun K hK => ?_
  rw [if_pos (wants_spec ha hw)]
  unfold Oper.still
  rw [exec_known ha hk, hr, Oper.stillUpon_value, hd]
  exact hK _ (h _ (ha.put hn v))
theorem WS.pass {o : Oper} {Q : Act → Prop} (d : Nat) (hd : o.dst = some d) (hn : d < n) (hw : wants ops l o = some false) (h : WS P ops w Q rest n ((d, undef) :: l)) : WS P ops w Q (o :: rest) n l := by
  intro a ha
  refine wpStill_step fun K hK => ?_
  rw [if_neg (by rw [wants_spec ha hw]; exact Bool.false_ne_true), hd]
  exact hK _ (h _ (ha.put hn undef))
theorem WS.call {o : Oper} {f : FuncId} {args : Array Value} {v : Value} {Q : Act → Prop} (d : Nat) (hd : o.dst = some d) (hn : d < n) (hw : wants ops l o = some true) (hk : known l o = true)
    (hr : (execOp (evD l) o).run P w = .ok (.enter f args) w) (hc : Calls P f args w fun e w'' => e = .returned v ∧ w'' = w) (h : WS P ops w Q rest n ((d, v) :: l)) : WS P ops w Q (o :: rest) n l := by
  intro a ha
  refine wpStill_step fun K hK => ?_
  rw [if_pos (wants_spec ha hw)]
  unfold Oper.still
  rw [exec_known ha hk, hr]
  refine ⟨rfl, v, hc, ?_⟩
  rw [hd]
  exact hK _ (h _ (ha.put hn v))
theorem WS.nil {Q : Act → Prop} (h : ∀ a, Fr n l a → Q a) : WS P ops w Q [] n l := fun a ha => h a ha

/-! The code. -/
theorem WC.seq {x y : Code} (h : ∀ K : Act → World → Prop, (∀ n l w, WC P y Q n l w → WQ (fun _ a w => K a w) .normal n l w) → WC P x (Exit.then K Q) n l w) : WC P (.seq x y) Q n l w :=
  fun a ha => wp_seq_k fun K hK => h K (fun n l w hy a ha => hK a w (hy a ha)) a ha
theorem WQ.then {K : Act → World → Prop} (h : WQ (fun _ a w => K a w) .normal n l w) : WQ (Exit.then K Q) .normal n l w := fun a ha => h a ha
theorem WQ.thenExit {K : Act → World → Prop} {id : Nat} (h : WQ Q (.exit id) n l w) : WQ (Exit.then K Q) (.exit id) n l w := fun a ha => h a ha
theorem WQ.thenRet {K : Act → World → Prop} (h : WQ Q .ret n l w) : WQ (Exit.then K Q) .ret n l w := fun a ha => h a ha
theorem WQ.inNormal {id : Nat} (h : WQ Q .normal n l w) : WQ (Exit.inBlock id Q) .normal n l w := fun a ha => h a ha
theorem WQ.inRet {id : Nat} (h : WQ Q .ret n l w) : WQ (Exit.inBlock id Q) .ret n l w := fun a ha => h a ha
theorem WQ.inExit {id : Nat} (h : WQ Q .normal n l w) : WQ (Exit.inBlock id Q) (.exit id) n l w := fun a ha => by
  show (if id = id then Q .normal a w else Q (.exit id) a w)
  rw [if_pos rfl]; exact h a ha
theorem WQ.inOther {id id' : Nat} (hne : id' ≠ id) (h : WQ Q (.exit id') n l w) : WQ (Exit.inBlock id Q) (.exit id') n l w := fun a ha => by
  show (if id' = id then Q .normal a w else Q (.exit id') a w)
  rw [if_neg hne]; exact h a ha
theorem WC.skip (h : WQ Q .normal n l w) : WC P .skip Q n l w := fun a ha => wp_skip (h a ha)
theorem WC.ret (h : WQ Q .ret n l w) : WC P .ret Q n l w := fun a ha => wp_ret (h a ha)
theorem WC.exit {id : Nat} (h : WQ Q (.exit id) n l w) : WC P (.exit id) Q n l w := fun a ha => wp_exit (h a ha)
theorem WC.label {id : Nat} (h : WQ Q .normal n l w) : WC P (.label id) Q n l w := fun a ha => wp_label (h a ha)
theorem WC.block {id : Nat} {c : Code} (h : WC P c (Exit.inBlock id Q) n l w) : WC P (.block id c) Q n l w := fun a ha => wp_block (h a ha)
theorem WC.yes {c : Operand} {x y : Code} (hc : ev l c = some (.bool true)) (h : WC P x Q n l w) : WC P (.cond c x y) Q n l w := fun a ha => wp_cond_true (ha.ev hc) (h a ha)
theorem WC.no {c : Operand} {x y : Code} (hc : ev l c = some (.bool false)) (h : WC P y Q n l w) : WC P (.cond c x y) Q n l w := fun a ha => wp_cond_false (ha.ev hc) (h a ha)
theorem WC.region {id : Nat} {ls : List Oper} (h : WL P ls.toArray Q ls n l w) : WC P (.region id ls.toArray false) Q n l w := fun a ha => wp_region_lit (h a ha)
/-- A region that draws its order and only reads. -/
theorem WC.still {id : Nat} {ls : List Oper} (hm : P.follows .mixedOrders = true) (hB : Region.lexB .any ls.toArray = true)
    (h : WS P ls.toArray w.drew (fun a' => Q .normal a' w.drew) ls n l) : WC P (.region id ls.toArray true) Q n l w := fun a ha => wp_region_still_lit hm hB (h a ha)
/-- A region that draws its order, whose last operations alone do more than read. -/
theorem WC.stillTail {id : Nat} {ls : List Oper} (k : Nat) (hm : P.follows .mixedOrders = true) (hB : Region.lexTailB .any ls.toArray k = true)
    (h : WS P ls.toArray w.drew (fun a' => wpList P ls.toArray Q (ls.drop k) a' w.drew) (ls.take k) n l) : WC P (.region id ls.toArray true) Q n l w := fun a ha => wp_region_still_tail k hm hB (h a ha)
/-- Ways that meet again. -/
theorem WC.cut {x y : Code} (I : List (Nat × Value) → World → Prop) (h1 : WC P x (Exit.then (fun a w => ∃ l, Fr n l a ∧ I l w) Q) n l w) (h2 : ∀ l w, I l w → WC P y Q n l w) : WC P (.seq x y) Q n l w :=
  fun a ha => wp_seq (wp_mono (h1 a ha) fun e a' w' q => by
    cases e with
    | normal => obtain ⟨l', hf, hI⟩ := q; exact h2 l' w' hI a' hf
    | exit id => exact q
    | goto l => exact q
    | ret => exact q
    | panic ch => exact q
    | outgrown => exact q)
theorem WQ.cut {I : List (Nat × Value) → World → Prop} (h : I l w) : WQ (Exit.then (fun a w => ∃ l, Fr n l a ∧ I l w) Q) .normal n l w := fun a ha => ⟨l, ha, h⟩
/-- A loop: what holds at each round's head, with the greatest number of rounds to come. -/
theorem WC.loop {c : Code} (I : Nat → List (Nat × Value) → World → Prop) (k0 : Nat) (l0 : List (Nat × Value)) (hs : Sub l0 l) (h0 : I k0 l0 w)
    (round : ∀ k l w, I k l w → ∀ K : Act → World → Prop, (∀ k' l' w', k' < k → I k' l' w' → WQ (fun _ a w => K a w) .normal n l' w') → WC P c (Exit.then K Q) n l w) : WC P (.loop c) Q n l w := by
  intro a ha
  refine wp_loop_ghost (fun k a w => ∃ l, Fr n l a ∧ I k l w) k0 ⟨l0, ha.sub hs, h0⟩ ?_
  rintro k a w ⟨l, hf, hI⟩
  exact round k l w hI _ (fun k' l' w' hlt hI' a' ha' => ⟨k', hlt, l', ha', hI'⟩) a hf
/-- The body of a function. -/
theorem calls_of {f : FuncId} {fn : Func} {c : Code} {args : Array Value} {R : Ending → World → Prop} (hf : P.funcs[f]? = some fn) (hb : fn.body = some c) {m : Nat} (hm : fn.ntmps = m) (ts : List (Nat × Value))
    (hfr : Fr m ts ⟨args ++ Array.replicate (m - args.size) undef, []⟩) (h : WC P c (bodyPost P fn R) m ts w) : Calls P f args w R := by
  refine calls_of_wp hf hb ?_
  rw [hm]
  exact h _ hfr
end
theorem Fr.getD {n : Nat} {l : List (Nat × Value)} {a : Act} (h : Fr n l a) {t : Nat} {v : Value} (hx : look l t = some v) : a.tmps.getD t undef = v := by
  simp [h.kn t v hx]
/-- The end, by what the results hold. -/
theorem WQ.ret1 {P : Program} {fn : Func} {R : Ending → World → Prop} {n : Nat} {l : List (Nat × Value)} {w : World} {v : Value} (t : Nat) (hr : fn.results = #[.tmp t]) (h1 : look l t = some v) (hR : R (.returned v) w) : WQ (bodyPost P fn R) .ret n l w :=
  fun a ha => bodyPost_ret (v := v) (by rw [results_tmp hr, ha.getD h1]) ha.df hR
theorem WQ.ret2 {P : Program} {fn : Func} {R : Ending → World → Prop} {n : Nat} {l : List (Nat × Value)} {w : World} {v1 v2 : Value} (t1 t2 : Nat) (hr : fn.results = #[.tmp t1, .tmp t2]) (h1 : look l t1 = some v1) (h2 : look l t2 = some v2) (hR : R (.returned (.tuple #[v1, v2])) w) : WQ (bodyPost P fn R) .ret n l w :=
  fun a ha => bodyPost_ret (v := .tuple #[v1, v2]) (by rw [results_tmp2 hr, ha.getD h1, ha.getD h2]) ha.df hR
theorem WQ.ret3 {P : Program} {fn : Func} {R : Ending → World → Prop} {n : Nat} {l : List (Nat × Value)} {w : World} {v1 v2 v3 : Value} (t1 t2 t3 : Nat) (hr : fn.results = #[.tmp t1, .tmp t2, .tmp t3]) (h1 : look l t1 = some v1) (h2 : look l t2 = some v2) (h3 : look l t3 = some v3) (hR : R (.returned (.tuple #[v1, v2, v3])) w) : WQ (bodyPost P fn R) .ret n l w :=
  fun a ha => bodyPost_ret (v := .tuple #[v1, v2, v3]) (by
    have e1 := ha.getD h1
    have e2 := ha.getD h2
    have e3 := ha.getD h3
    simp [results, hr] at e1 e2 e3 ⊢
    simp [e1, e2, e3]) ha.df hR
theorem WQ.ret0 {P : Program} {fn : Func} {R : Ending → World → Prop} {n : Nat} {l : List (Nat × Value)} {w : World} (hr : fn.results = #[]) (hR : R (.returned (.tuple #[])) w) : WQ (bodyPost P fn R) .ret n l w :=
  fun a ha => bodyPost_ret (v := .tuple #[]) (results_none hr _ _ _) ha.df hR
theorem WQ.end0 {P : Program} {fn : Func} {R : Ending → World → Prop} {n : Nat} {l : List (Nat × Value)} {w : World} (hr : fn.results = #[]) (hR : R (.returned (.tuple #[])) w) : WQ (bodyPost P fn R) .normal n l w :=
  fun a ha => bodyPost_end (v := .tuple #[]) (results_none hr _ _ _) ha.df hR
/-- a result that lies in memory -/
theorem WQ.retC {P : Program} {fn : Func} {R : Ending → World → Prop} {n : Nat} {l : List (Nat × Value)} {w : World} {v : Value} {ad : Addr} (t ty : Nat) (hr : fn.results = #[.cell t ty]) (h1 : look l t = some (.pointer (some ad))) (h2 : (loadVar ty ad).run P w = .ok v w) (hR : R (.returned v) w) : WQ (bodyPost P fn R) .ret n l w :=
  fun a ha => bodyPost_ret (v := v) (by
    have e1 := ha.getD h1
    simp [results, hr, asAddr] at e1 ⊢
    simp [e1, h2]) ha.df hR
theorem WQ.retC2 {P : Program} {fn : Func} {R : Ending → World → Prop} {n : Nat} {l : List (Nat × Value)} {w : World} {v v2 : Value} {ad : Addr} (t ty t2 : Nat) (hr : fn.results = #[.cell t ty, .tmp t2]) (h1 : look l t = some (.pointer (some ad))) (h3 : look l t2 = some v2) (h2 : (loadVar ty ad).run P w = .ok v w) (hR : R (.returned (.tuple #[v, v2])) w) : WQ (bodyPost P fn R) .ret n l w :=
  fun a ha => bodyPost_ret (v := .tuple #[v, v2]) (by
    have e1 := ha.getD h1
    have e3 := ha.getD h3
    simp [results, hr, asAddr] at e1 e3 ⊢
    simp [e1, h2, e3]) ha.df hR
end Fw
end Go.Proofs.Yteckbfebemofmaa
