/- What the proof of CacheTables stands on, part 1 of 5. -/
import Derived.CallsIn
import Derived.ChangeKeysEq
import Derived.ChangeSlices
import Derived.Deep.LoopGhost
import Derived.Deep.MidRow
import Derived.Great.BuildSlice
import Derived.Handy
import Derived.KernelRfl
import Derived.Laws.AppendOwn
import Derived.Laws.AppendOwnNone
import Derived.Laws.CopyRow
import Derived.Laws.MakeOwn
import Derived.Laws.Rows
import Derived.Laws.StructEq
import Derived.Lib.QuietBelow
import Derived.Lib.SliceRun
import Derived.Orders
import Derived.OrdersIn
import Derived.RangeFuncFrom
import Derived.RangeFuncLeaves
import Derived.RangeFuncWrites
import Derived.Still
import Derived.StillTail
import Derived.TacticsIn
import Derived.Test.YtmjnakhpekbenaaProg
import Derived.WalkKit
import Derived.WalkLawsBesides
set_option linter.unusedVariables false
set_option linter.unusedSimpArgs false
namespace Go.Proofs.Ytmjnakhpekbenaa
open Go.RowKit
namespace Fw
/-- what a list of pairs says of a slot -/
def look : List (Nat × Value) → Nat → Option Value
  | [], _ => none
  | (s, v) :: r, t => match Nat.beq s t with
    | true => some v
    | false => look r t
/-- a frame of n slots, of which a list of pairs is known -/
structure Fr (n : Nat) (l : List (Nat × Value)) (a : Act) : Prop where
  sz : a.tmps.size = n
  df : a.defers = []
  kn : ∀ t v, look l t = some v → a.tmps[t]? = some v
def ev (l : List (Nat × Value)) : Operand → Option Value
  | .tmp t => look l t
  | .const v => some v
  | .global g => some (.pointer (some ⟨g, 0, none⟩))
  | .func f => some (.func (.func f) #[] #[])
def evD (l : List (Nat × Value)) (x : Operand) : Value := (ev l x).getD undef
theorem Fr.ev {n : Nat} {l : List (Nat × Value)} {a : Act} (h : Fr n l a) {x : Operand} {v : Value} (hx : ev l x = some v) : a.eval x = v := by
  cases x with
  | tmp t => simp [Act.eval, h.kn t v hx]
  | const u => simpa [Fw.ev, Act.eval] using hx
  | global g => simpa [Fw.ev, Act.eval] using hx
  | func f => simpa [Fw.ev, Act.eval] using hx
theorem Fr.evD {n : Nat} {l : List (Nat × Value)} {a : Act} (h : Fr n l a) {x : Operand} (hx : (Fw.ev l x).isSome = true) : a.eval x = Fw.evD l x := by
  obtain ⟨v, hv⟩ := Option.isSome_iff_exists.1 hx
  rw [h.ev hv, Fw.evD, hv]; rfl
theorem look_cons_ne {l : List (Nat × Value)} {s t : Nat} {v : Value} (h : s ≠ t) : look ((s, v) :: l) t = look l t := by
  show (match Nat.beq s t with | true => some v | false => look l t) = _
  cases hb : Nat.beq s t
  · rfl
  · exact absurd (Nat.eq_of_beq_eq_true hb) h
theorem look_cons_eq {l : List (Nat × Value)} {s : Nat} {v : Value} : look ((s, v) :: l) s = some v := by
  show (match Nat.beq s s with | true => some v | false => look l s) = _
  have : Nat.beq s s = true := Nat.beq_refl s
  rw [this]
theorem Fr.put {n : Nat} {l : List (Nat × Value)} {a : Act} (h : Fr n l a) {d : Nat} (hd : d < n) (v : Value) : Fr n ((d, v) :: l) (a.put (some d) v) := by
  refine ⟨by simp [Act.put, h.sz], by simp [Act.put, h.df], fun t u ht => ?_⟩
  by_cases e : d = t
  · subst e
    rw [look_cons_eq] at ht
    cases ht
    simp [Act.put, h.sz, hd]
  · rw [look_cons_ne e] at ht
    have := h.kn t u ht
    simp [Act.put, Array.getElem?_setIfInBounds_ne e, this]
/-- every pair of the first list is said by the second -/
def Sub : List (Nat × Value) → List (Nat × Value) → Prop
  | [], _ => True
  | (t, v) :: r, l => look l t = some v ∧ Sub r l
theorem Sub.look {l : List (Nat × Value)} {t : Nat} {v : Value} : ∀ {l' : List (Nat × Value)}, Sub l' l → Fw.look l' t = some v → Fw.look l t = some v
  | [], _, h => by cases h
  | (s, u) :: r, hs, h => by
    by_cases e : s = t
    · subst e; rw [look_cons_eq] at h; cases h; exact hs.1
    · rw [look_cons_ne e] at h; exact Sub.look hs.2 h
theorem Fr.sub {n : Nat} {l l' : List (Nat × Value)} {a : Act} (h : Fr n l a) (hs : Sub l' l) : Fr n l' a := ⟨h.sz, h.df, fun t v ht => h.kn t v (hs.look ht)⟩

/-! The goals of the walk. -/
def WL (P : Program) (ops : Array Oper) (Q : Exit → Act → World → Prop) (rest : List Oper) (n : Nat) (l : List (Nat × Value)) (w : World) : Prop := ∀ a, Fr n l a → wpList P ops Q rest a w
def WC (P : Program) (c : Code) (Q : Exit → Act → World → Prop) (n : Nat) (l : List (Nat × Value)) (w : World) : Prop := ∀ a, Fr n l a → Code.wp P c Q a w
def WQ (Q : Exit → Act → World → Prop) (e : Exit) (n : Nat) (l : List (Nat × Value)) (w : World) : Prop := ∀ a, Fr n l a → Q e a w
def WS (P : Program) (ops : Array Oper) (w : World) (Q : Act → Prop) (rest : List Oper) (n : Nat) (l : List (Nat × Value)) : Prop := ∀ a, Fr n l a → wpStill P ops w Q rest a
section
variable {P : Program} {ops : Array Oper} {Q : Exit → Act → World → Prop} {rest : List Oper} {n : Nat} {l l' : List (Nat × Value)} {w w' : World}
theorem WC.sub {c : Code} (hs : Sub l' l) (h : WC P c Q n l' w) : WC P c Q n l w := fun a ha => h a (ha.sub hs)
theorem WQ.sub {e : Exit} (hs : Sub l' l) (h : WQ Q e n l' w) : WQ Q e n l w := fun a ha => h a (ha.sub hs)

/-! Is an operation wanted? -/
def wants (ops : Array Oper) (l : List (Nat × Value)) (o : Oper) : Option Bool :=
  match o.guard with
  | none => some true
  | some (j, want) => match ((ops[j]?).bind (·.dst)).bind (look l) with
    | some (.bool b) => some (b == want)
    | some (.tuple _) => some false
    | _ => none
theorem wants_spec {a : Act} (ha : Fr n l a) {o : Oper} {b : Bool} (h : wants ops l o = some b) : Region.wanted o (yielded ops a.tmps) = b := by
  unfold wants at h
  unfold Region.wanted
  cases hg : o.guard with
  | none => rw [hg] at h; simpa using h
  | some jw =>
    obtain ⟨j, want⟩ := jw
    rw [hg] at h
    simp only [] at h ⊢
    cases ht : (ops[j]?).bind (·.dst) with
    | none => rw [ht] at h; cases h
    | some t =>
      rw [ht] at h
      simp only [Option.bind_some] at h
      cases hl : look l t with
      | none => rw [hl] at h; cases h
      | some u =>
        rw [hl] at h
        have hk := ha.kn t u hl
        cases u
        case bool c =>
          have : yielded ops a.tmps j = some c := by unfold yielded; rw [ht]; simp [hk]
          rw [this]
          simp only [] at h
          cases c <;> cases want <;> simpa using h
        case tuple xs =>
          have : yielded ops a.tmps j = none := by unfold yielded; rw [ht]; simp [hk]
          rw [this]
          simp only [] at h
          cases want <;> simpa using h
        all_goals (simp only [] at h; cases h)

/-! The operations. -/
def noSel : Op → Bool
  | .select _ _ => false
  | _ => true
def known (l : List (Nat × Value)) (o : Oper) : Bool := noSel o.op && o.op.operands.toList.all fun x => (ev l x).isSome
theorem exec_known {a : Act} (ha : Fr n l a) {o : Oper} (h : known l o = true) : execOp a.eval o = execOp (evD l) o := by
  unfold known at h
  rw [Bool.and_eq_true] at h
  refine execOp_congr o (fun cs b e => by rw [e] at h; exact absurd h.1 (by simp [noSel])) fun x hx => ha.evD ?_
  exact List.all_eq_true.1 h.2 x (by simpa using hx)
/-- An operation that yields a value. -/
theorem WL.val {o : Oper} {v : Value} (d : Nat) (hd : o.dst = some d) (hn : d < n) (hw : wants ops l o = some true) (hk : known l o = true)
    (hr : (execOp (evD l) o).run P w = .ok (.value v) w') (h : WL P ops Q rest n ((d, v) :: l) w') : WL P ops Q (o :: rest) n l w := by
  intro a ha
  refine wpList_step fun K hK => ?_
  rw [if_pos (wants_spec ha hw)]
  unfold Oper.wp
  rw [exec_known ha hk, hr, Oper.upon_value, hd]
  exact hK _ _ (h _ (ha.put hn v))
theorem WL.pure {o : Oper} {v : Value} (d : Nat) (hd : o.dst = some d) (hn : d < n) (hw : wants ops l o = some true) (hk : known l o = true)
    (hr : (execOp (evD l) o).run P w = .ok (.value v) w) (h : WL P ops Q rest n ((d, v) :: l) w) : WL P ops Q (o :: rest) n l w := WL.val d hd hn hw hk hr h
/-- One that its guard passes over. -/
theorem WL.pass {o : Oper} (d : Nat) (hd : o.dst = some d) (hn : d < n) (hw : wants ops l o = some false) (h : WL P ops Q rest n ((d, undef) :: l) w) : WL P ops Q (o :: rest) n l w := by
  intro a ha
  refine wpList_step fun K hK => ?_
  rw [if_neg (by rw [wants_spec ha hw]; exact Bool.false_ne_true), hd]
  exact hK _ _ (h _ (ha.put hn undef))
/-- A call. -/
theorem WL.call {o : Oper} {f : FuncId} {args : Array Value} (d : Nat) (hd : o.dst = some d) (hn : d < n) (hw : wants ops l o = some true) (hk : known l o = true)
    (hr : (execOp (evD l) o).run P w = .ok (.enter f args) w) (h : Calls P f args w fun e w'' => ∃ v, e = .returned v ∧ WL P ops Q rest n ((d, v) :: l) w'') : WL P ops Q (o :: rest) n l w := by
  intro a ha
  refine wpList_step fun K hK => ?_
  rw [if_pos (wants_spec ha hw)]
  unfold Oper.wp
  rw [exec_known ha hk, hr, Oper.upon_enter]
  refine h.mono ?_
  rintro e w'' ⟨v, rfl, hv⟩
  rw [hd]
  exact hK _ _ (hv _ (ha.put hn v))
theorem WL.nil (h : WQ Q .normal n l w) : WL P ops Q [] n l w := fun a ha => h a ha

/-! The same in a region that draws its order, whose operations leave the world as it is. -/
theorem WS.val {o : Oper} {v : Value} {Q : Act → Prop} (d : Nat) (hd : o.dst = some d) (hn : d < n) (hw : wants ops l o = some true) (hk : known l o = true)
    (hr : (execOp (evD l) o).run P w = .ok (.value v) w) (h : WS P ops w Q rest n ((d, v) :: l)) : WS P ops w Q (o :: rest) n l := by
  intro a ha
  refine wpStill_step fun K hK => ?_
  rw [if_pos (wants_spec ha hw)]
  unfold Oper.still
  rw [exec_known ha hk, hr, Oper.stillUpon_value, hd]
  exact hK _ (h _ (ha.put hn v))
theorem WS.pass {o : Oper} {Q : Act → Prop} (d : Nat) (hd : o.dst = some d) (hn : d < n) (hw : wants ops l o = some false) (h : WS P ops w Q rest n ((d, undef) :: l)) : WS P ops w Q (o :: rest) n l := by
  intro a ha
  refine wpStill_step fun K hK => ?_
  rw [if_neg (by rw [wants_spec ha hw]; exact Bool.false_ne_true), hd]
  exact hK _ (h _ (ha.put hn undef))
theorem WS.call {o : Oper} {f : FuncId} {args : Array Value} {v : Value} {Q : Act → Prop} (d : Nat) (hd : o.dst = some d) (hn : d < n) (hw : wants ops l o = some true) (hk : known l o = true)
    (hr : (execOp (evD l) o).run P w = .ok (.enter f args) w) (hc : Calls P f args w fun e w'' => e = .returned v ∧ w'' = w) (h : WS P ops w Q rest n ((d, v) :: l)) : WS P ops w Q (o :: rest) n l := by
  intro a ha
  refine wpStill_step fun K hK => ?_
  rw [if_pos (wants_spec ha hw)]
  unfold Oper.still
  rw [exec_known ha hk, hr]
  refine ⟨rfl, v, hc, ?_⟩
  rw [hd]
  exact hK _ (h _ (ha.put hn v))
theorem WC.seq {x y : Code} (h : ∀ K : Act → World → Prop, (∀ n l w, WC P y Q n l w → WQ (fun _ a w => K a w) .normal n l w) → WC P x (Exit.then K Q) n l w) : WC P (.seq x y) Q n l w :=
  fun a ha => wp_seq_k fun K hK => h K (fun n l w hy a ha => hK a w (hy a ha)) a ha
theorem WQ.then {K : Act → World → Prop} (h : WQ (fun _ a w => K a w) .normal n l w) : WQ (Exit.then K Q) .normal n l w := fun a ha => h a ha
theorem WQ.thenExit {K : Act → World → Prop} {id : Nat} (h : WQ Q (.exit id) n l w) : WQ (Exit.then K Q) (.exit id) n l w := fun a ha => h a ha
theorem WQ.thenRet {K : Act → World → Prop} (h : WQ Q .ret n l w) : WQ (Exit.then K Q) .ret n l w := fun a ha => h a ha
theorem WQ.inNormal {id : Nat} (h : WQ Q .normal n l w) : WQ (Exit.inBlock id Q) .normal n l w := fun a ha => h a ha
theorem WQ.inRet {id : Nat} (h : WQ Q .ret n l w) : WQ (Exit.inBlock id Q) .ret n l w := fun a ha => h a ha
theorem WQ.inExit {id : Nat} (h : WQ Q .normal n l w) : WQ (Exit.inBlock id Q) (.exit id) n l w := fun a ha => by
  show (if id = id then Q .normal a w else Q (.exit id) a w)
  rw [if_pos rfl]; exact h a ha
theorem WQ.inOther {id id' : Nat} (hne : id' ≠ id) (h : WQ Q (.exit id') n l w) : WQ (Exit.inBlock id Q) (.exit id') n l w := fun a ha => by
  show (if id' = id then Q .normal a w else Q (.exit id') a w)
  rw [if_neg hne]; exact h a ha
theorem WC.skip (h : WQ Q .normal n l w) : WC P .skip Q n l w := fun a ha => wp_skip (h a ha)
theorem WC.ret (h : WQ Q .ret n l w) : WC P .ret Q n l w := fun a ha => wp_ret (h a ha)
theorem WC.exit {id : Nat} (h : WQ Q (.exit id) n l w) : WC P (.exit id) Q n l w := fun a ha => wp_exit (h a ha)
theorem WC.block {id : Nat} {c : Code} (h : WC P c (Exit.inBlock id Q) n l w) : WC P (.block id c) Q n l w := fun a ha => wp_block (h a ha)
theorem WC.yes {c : Operand} {x y : Code} (hc : ev l c = some (.bool true)) (h : WC P x Q n l w) : WC P (.cond c x y) Q n l w := fun a ha => wp_cond_true (ha.ev hc) (h a ha)
theorem WC.no {c : Operand} {x y : Code} (hc : ev l c = some (.bool false)) (h : WC P y Q n l w) : WC P (.cond c x y) Q n l w := fun a ha => wp_cond_false (ha.ev hc) (h a ha)
theorem WC.region {id : Nat} {ls : List Oper} (h : WL P ls.toArray Q ls n l w) : WC P (.region id ls.toArray false) Q n l w := fun a ha => wp_region_lit (h a ha)
/-- A region that draws its order and only reads. -/
theorem WC.still {id : Nat} {ls : List Oper} (hm : P.follows .mixedOrders = true) (hB : Region.lexB .any ls.toArray = true)
    (h : WS P ls.toArray w.drew (fun a' => Q .normal a' w.drew) ls n l) : WC P (.region id ls.toArray true) Q n l w := fun a ha => wp_region_still_lit hm hB (h a ha)
/-- A region that draws its order, whose last operations alone do more than read. -/
theorem WC.stillTail {id : Nat} {ls : List Oper} (k : Nat) (hm : P.follows .mixedOrders = true) (hB : Region.lexTailB .any ls.toArray k = true)
    (h : WS P ls.toArray w.drew (fun a' => wpList P ls.toArray Q (ls.drop k) a' w.drew) (ls.take k) n l) : WC P (.region id ls.toArray true) Q n l w := fun a ha => wp_region_still_tail k hm hB (h a ha)
/-- Ways that meet again. -/
theorem WC.cut {x y : Code} (I : List (Nat × Value) → World → Prop) (h1 : WC P x (Exit.then (fun a w => ∃ l, Fr n l a ∧ I l w) Q) n l w) (h2 : ∀ l w, I l w → WC P y Q n l w) : WC P (.seq x y) Q n l w :=
  fun a ha => wp_seq (wp_mono (h1 a ha) fun e a' w' q => by
    cases e with
    | normal => obtain ⟨l', hf, hI⟩ := q; exact h2 l' w' hI a' hf
    | exit id => exact q
    | goto l => exact q
    | ret => exact q
    | panic ch => exact q
    | outgrown => exact q)
theorem WQ.cut {I : List (Nat × Value) → World → Prop} (h : I l w) : WQ (Exit.then (fun a w => ∃ l, Fr n l a ∧ I l w) Q) .normal n l w := fun a ha => ⟨l, ha, h⟩
/-- A loop: what holds at each round's head, with the greatest number of rounds to come. -/
theorem WC.loop {c : Code} (I : Nat → List (Nat × Value) → World → Prop) (k0 : Nat) (l0 : List (Nat × Value)) (hs : Sub l0 l) (h0 : I k0 l0 w)
    (round : ∀ k l w, I k l w → ∀ K : Act → World → Prop, (∀ k' l' w', k' < k → I k' l' w' → WQ (fun _ a w => K a w) .normal n l' w') → WC P c (Exit.then K Q) n l w) : WC P (.loop c) Q n l w := by
  intro a ha
  refine wp_loop_ghost (fun k a w => ∃ l, Fr n l a ∧ I k l w) k0 ⟨l0, ha.sub hs, h0⟩ ?_
  rintro k a w ⟨l, hf, hI⟩
  exact round k l w hI _ (fun k' l' w' hlt hI' a' ha' => ⟨k', hlt, l', ha', hI'⟩) a hf
/-- The body of a function. -/
theorem calls_of {f : FuncId} {fn : Func} {c : Code} {args : Array Value} {R : Ending → World → Prop} (hf : P.funcs[f]? = some fn) (hb : fn.body = some c) {m : Nat} (hm : fn.ntmps = m) (ts : List (Nat × Value))
    (hfr : Fr m ts ⟨args ++ Array.replicate (m - args.size) undef, []⟩) (h : WC P c (bodyPost P fn R) m ts w) : Calls P f args w R := by
  refine calls_of_wp hf hb ?_
  rw [hm]
  exact h _ hfr
end
theorem Fr.getD {n : Nat} {l : List (Nat × Value)} {a : Act} (h : Fr n l a) {t : Nat} {v : Value} (hx : look l t = some v) : a.tmps.getD t undef = v := by
  simp [h.kn t v hx]
/-- The end, by what the results hold. -/
theorem WQ.ret1 {P : Program} {fn : Func} {R : Ending → World → Prop} {n : Nat} {l : List (Nat × Value)} {w : World} {v : Value} (t : Nat) (hr : fn.results = #[.tmp t]) (h1 : look l t = some v) (hR : R (.returned v) w) : WQ (bodyPost P fn R) .ret n l w :=
  fun a ha => bodyPost_ret (v := v) (by rw [results_tmp hr, ha.getD h1]) ha.df hR
theorem WQ.ret2 {P : Program} {fn : Func} {R : Ending → World → Prop} {n : Nat} {l : List (Nat × Value)} {w : World} {v1 v2 : Value} (t1 t2 : Nat) (hr : fn.results = #[.tmp t1, .tmp t2]) (h1 : look l t1 = some v1) (h2 : look l t2 = some v2) (hR : R (.returned (.tuple #[v1, v2])) w) : WQ (bodyPost P fn R) .ret n l w :=
  fun a ha => bodyPost_ret (v := .tuple #[v1, v2]) (by rw [results_tmp2 hr, ha.getD h1, ha.getD h2]) ha.df hR
theorem WQ.ret3 {P : Program} {fn : Func} {R : Ending → World → Prop} {n : Nat} {l : List (Nat × Value)} {w : World} {v1 v2 v3 : Value} (t1 t2 t3 : Nat) (hr : fn.results = #[.tmp t1, .tmp t2, .tmp t3]) (h1 : look l t1 = some v1) (h2 : look l t2 = some v2) (h3 : look l t3 = some v3) (hR : R (.returned (.tuple #[v1, v2, v3])) w) : WQ (bodyPost P fn R) .ret n l w :=
  fun a ha => bodyPost_ret (v := .tuple #[v1, v2, v3]) (by
    have e1 := ha.getD h1
    have e2 := ha.getD h2
    have e3 := ha.getD h3
    simp [results, hr] at e1 e2 e3 ⊢
    simp [e1, e2, e3]) ha.df hR
theorem WQ.end0 {P : Program} {fn : Func} {R : Ending → World → Prop} {n : Nat} {l : List (Nat × Value)} {w : World} (hr : fn.results = #[]) (hR : R (.returned (.tuple #[])) w) : WQ (bodyPost P fn R) .normal n l w :=
  fun a ha => bodyPost_end (v := .tuple #[]) (results_none hr _ _ _) ha.df hR
/-- a result that lies in memory -/
theorem WQ.retC {P : Program} {fn : Func} {R : Ending → World → Prop} {n : Nat} {l : List (Nat × Value)} {w : World} {v : Value} {ad : Addr} (t ty : Nat) (hr : fn.results = #[.cell t ty]) (h1 : look l t = some (.pointer (some ad))) (h2 : (loadVar ty ad).run P w = .ok v w) (hR : R (.returned v) w) : WQ (bodyPost P fn R) .ret n l w :=
  fun a ha => bodyPost_ret (v := v) (by
    have e1 := ha.getD h1
    simp [results, hr, asAddr] at e1 ⊢
    simp [e1, h2]) ha.df hR
theorem WQ.retC2 {P : Program} {fn : Func} {R : Ending → World → Prop} {n : Nat} {l : List (Nat × Value)} {w : World} {v v2 : Value} {ad : Addr} (t ty t2 : Nat) (hr : fn.results = #[.cell t ty, .tmp t2]) (h1 : look l t = some (.pointer (some ad))) (h3 : look l t2 = some v2) (h2 : (loadVar ty ad).run P w = .ok v w) (hR : R (.returned (.tuple #[v, v2])) w) : WQ (bodyPost P fn R) .ret n l w :=
  fun a ha => bodyPost_ret (v := .tuple #[v, v2]) (by
    have e1 := ha.getD h1
    have e3 := ha.getD h3
    simp [results, hr, asAddr] at e1 e3 ⊢
    simp [e1, h2, e3]) ha.df hR
end Fw
end Go.Proofs.Ytmjnakhpekbenaa
namespace Go.Proofs.Ytmjnakhpekbenaa
namespace Fw
section
variable {P : Program} {ops : Array Oper} {Q : Exit → Act → World → Prop} {rest : List Oper} {n : Nat} {l : List (Nat × Value)} {w : World}
theorem WL.z {o : Oper} {v : Value} (d : Nat) (h : WL P ops Q rest n ((d, v) :: l) w) (hd : o.dst = some d := by exact rfl) (hn : Nat.ble (d + 1) n = true := by exact rfl) (hw : wants ops l o = some true := by exact rfl) (hk : known l o = true := by exact rfl) (hr : (execOp (evD l) o).run P w = .ok (.value v) w := by kernel_rfl) : WL P ops Q (o :: rest) n l w := WL.pure d hd (Nat.le_of_ble_eq_true hn) hw hk hr h
theorem WL.y {o : Oper} {v : Value} (d : Nat) (hr : (execOp (evD l) o).run P w = .ok (.value v) w) (h : WL P ops Q rest n ((d, v) :: l) w) (hd : o.dst = some d := by exact rfl) (hn : Nat.ble (d + 1) n = true := by exact rfl) (hw : wants ops l o = some true := by exact rfl) (hk : known l o = true := by exact rfl) : WL P ops Q (o :: rest) n l w := WL.pure d hd (Nat.le_of_ble_eq_true hn) hw hk hr h
theorem WS.z {o : Oper} {v : Value} {Q : Act → Prop} (d : Nat) (h : WS P ops w Q rest n ((d, v) :: l)) (hd : o.dst = some d := by exact rfl) (hn : Nat.ble (d + 1) n = true := by exact rfl) (hw : wants ops l o = some true := by exact rfl) (hk : known l o = true := by exact rfl) (hr : (execOp (evD l) o).run P w = .ok (.value v) w := by kernel_rfl) : WS P ops w Q (o :: rest) n l := WS.val d hd (Nat.le_of_ble_eq_true hn) hw hk hr h
theorem WS.y {o : Oper} {v : Value} {Q : Act → Prop} (d : Nat) (hr : (execOp (evD l) o).run P w = .ok (.value v) w) (h : WS P ops w Q rest n ((d, v) :: l)) (hd : o.dst = some d := by exact rfl) (hn : Nat.ble (d + 1) n = true := by exact rfl) (hw : wants ops l o = some true := by exact rfl) (hk : known l o = true := by exact rfl) : WS P ops w Q (o :: rest) n l := WS.val d hd (Nat.le_of_ble_eq_true hn) hw hk hr h
theorem WL.p {o : Oper} (d : Nat) (h : WL P ops Q rest n ((d, undef) :: l) w) (hd : o.dst = some d := by exact rfl) (hn : Nat.ble (d + 1) n = true := by exact rfl) (hw : wants ops l o = some false := by exact rfl) : WL P ops Q (o :: rest) n l w := WL.pass d hd (Nat.le_of_ble_eq_true hn) hw h
theorem WS.p {o : Oper} {Q : Act → Prop} (d : Nat) (h : WS P ops w Q rest n ((d, undef) :: l)) (hd : o.dst = some d := by exact rfl) (hn : Nat.ble (d + 1) n = true := by exact rfl) (hw : wants ops l o = some false := by exact rfl) : WS P ops w Q (o :: rest) n l := WS.pass d hd (Nat.le_of_ble_eq_true hn) hw h
end
end Fw
end Go.Proofs.Ytmjnakhpekbenaa
namespace Go.Proofs.Ytmjnakhpekbenaa
open Go.RowKit
namespace Fw
/-- something in memory: a block, or a row that grows -/
inductive Ent where
  | cel (b : Nat) (c : Array Value) (T : TypeId)
  | own (v : Value) (k : Nat) (xs : List Value) (e : TypeId) (s : Nat)
def Ent.blk : Ent → Option Nat
  | .cel b _ _ => some b
  | .own v _ _ _ _ => v.ownBlock
def Ent.holds (w : World) : Ent → Prop
  | .cel b c T => w.heap[b]? = some (.cells c T (0, 0))
  | .own v k xs e s => w.ownsRow 0 e s v k xs
theorem Ent.lt {w : World} {e : Ent} (h : e.holds w) {b : Nat} (hb : e.blk = some b) : b < w.heap.size := by
  cases e with
  | cel b' c T => simp only [Ent.blk, Option.some.injEq] at hb; subst hb; exact (Array.getElem?_eq_some_iff.1 h).1
  | own v k xs e s => exact (World.ownsRow.lt h b hb).2
theorem Ent.keep {w w' : World} {e : Ent} (h : e.holds w) (hk : ∀ b, e.blk = some b → w'.heap[b]? = w.heap[b]?) : e.holds w' := by
  cases e with
  | cel b c T => exact (hk b rfl).trans h
  | own v k xs e s =>
    refine ⟨h.1, ?_⟩
    rcases h.2 with hn | ⟨g, cap, cur, rfl, hb, hg, rest⟩
    · exact .inl hn
    · exact .inr ⟨g, cap, cur, rfl, hb, (hk g rfl).trans hg, rest⟩
def Apart (e e' : Ent) : Prop := ∀ b, e.blk = some b → e'.blk ≠ some b
theorem Apart.symm {e e' : Ent} (h : Apart e e') : Apart e' e := fun b hb hb' => h b hb' hb
/-- From the world w0 on to w: the blocks that S names are as they were, and the list holds. -/
structure HP (S : Nat → Prop) (w0 w : World) (H : List Ent) : Prop where
  os : w.os = w0.os
  tape : w.tape = w0.tape
  output : w.output = w0.output
  size : w0.heap.size ≤ w.heap.size
  keep : ∀ k, k < w0.heap.size → S k → w.heap[k]? = w0.heap[k]?
  hold : ∀ e, e ∈ H → e.holds w
  fresh : ∀ e, e ∈ H → ∀ b, e.blk = some b → b < w0.heap.size → ¬ S b
  apart : H.Pairwise Apart
abbrev Tr : Nat → Prop := fun _ => True
section
variable {S : Nat → Prop} {w0 w w' : World} {H H' : List Ent}
theorem HP.refl (w : World) : HP S w w [] := ⟨rfl, rfl, rfl, Nat.le_refl _, fun _ _ _ => rfl, fun e h => absurd h (List.not_mem_nil), fun e h => absurd h (List.not_mem_nil), List.Pairwise.nil⟩
theorem HP.below (h : HP Tr w0 w H) : Below w0.heap.size w0 w := ⟨h.os, h.tape, h.output, h.size, fun k hk => h.keep k hk trivial⟩
theorem HP.of_below (h : Below w0.heap.size w0 w) : HP S w0 w [] := ⟨h.os, h.tape, h.output, h.size, fun k hk _ => h.block k hk, fun e h => absurd h (List.not_mem_nil), fun e h => absurd h (List.not_mem_nil), List.Pairwise.nil⟩
theorem HP.eq (h : HP S w0 w H) (e : H = H') : HP S w0 w H' := e ▸ h
theorem HP.drew (h : HP S w0 w H) : HP S w0 w.drew H := ⟨h.os, h.tape, h.output, h.size, h.keep, fun e he => Ent.keep (h.hold e he) (fun b _ => rfl), h.fresh, h.apart⟩
/-- what stood before stands -/
theorem HP.old (h : HP S w0 w H) {a : Addr} {v : Value} (hS : S a.block) (hc : w0.cell? a = some v) : w.cell? a = some v :=
  (World.cell?_of_block (h.keep a.block (World.block_lt_of_cell? w0 a hc) hS)).trans hc
theorem HP.get (h : HP S w0 w H) (i : Nat) {e : Ent} (hi : H[i]? = some e) : e.holds w := h.hold e (List.mem_of_getElem? hi)
theorem HP.cell (h : HP S w0 w H) (i : Nat) {b off : Nat} {c : Array Value} {T : TypeId} {v : Value} (hi : H[i]? = some (.cel b c T)) (hc : c[off]? = some v) : w.cell? ⟨b, off, none⟩ = some v := by
  rw [cell_of_row w b off c T (0, 0) (h.get i hi)]; exact hc
theorem HP.free (h : HP S w0 w H) (i : Nat) {b off : Nat} {c : Array Value} {T : TypeId} (hi : H[i]? = some (.cel b c T)) : w.frozen? ⟨b, off, none⟩ = false := frozen_of_row w b off c T (h.get i hi)
theorem HP.ownCell (h : HP S w0 w H) (i : Nat) {g n cap j : Nat} {xs : List Value} {e s : Nat} {u : Value} (hi : H[i]? = some (.own (.slice (some ⟨g, 0, none⟩) n cap) n xs e s)) (hu : xs[j]? = some u) : w.cell? ⟨g, j, none⟩ = some u := by
  have q := World.ownsRow.cells (h.get i hi) (g := g) rfl j u hu
  have hadd : (⟨g, 0, none⟩ : Addr).add j = ⟨g, j, none⟩ := by unfold Addr.add; split <;> simp_all
  rwa [hadd] at q
/-- a part of the list -/
theorem HP.sub (h : HP S w0 w H) (hs : H'.Sublist H) : HP S w0 w H' := ⟨h.os, h.tape, h.output, h.size, h.keep, fun e he => h.hold e (hs.subset he), fun e he => h.fresh e (hs.subset he), h.apart.sublist hs⟩
theorem HP.drop (h : HP S w0 w H) (i : Nat) : HP S w0 w (H.eraseIdx i) := h.sub (List.eraseIdx_sublist H i)
/-- a block is laid -/
theorem HP.alloc (h : HP S w0 w H) (c : Array Value) (T : TypeId) : HP S w0 (w.alloc (.cells c T)) (H ++ [.cel w.heap.size c T]) := by
  have hk : ∀ b, b < w.heap.size → (w.alloc (.cells c T)).heap[b]? = w.heap[b]? := fun b hb => heap_alloc_old w _ hb
  refine ⟨h.os, h.tape, h.output, by simp; have := h.size; omega, fun k hk' hS => (hk k (Nat.lt_of_lt_of_le hk' h.size)).trans (h.keep k hk' hS), ?_, ?_, ?_⟩
  · intro e he
    rcases List.mem_append.1 he with he | he
    · exact Ent.keep (h.hold e he) fun b hb => hk b (Ent.lt (h.hold e he) hb)
    · simp at he; subst he; exact heap_alloc_new w _
  · intro e he b hb hlt
    rcases List.mem_append.1 he with he | he
    · exact h.fresh e he b hb hlt
    · simp at he; subst he
      simp only [Ent.blk, Option.some.injEq] at hb
      have := h.size; omega
  · refine List.pairwise_append.2 ⟨h.apart, by simp, fun e he e' he' b hb hb' => ?_⟩
    simp at he'; subst he'
    simp only [Ent.blk, Option.some.injEq] at hb'
    have := Ent.lt (h.hold e he) hb; omega
/-- one entry is changed, all else is as it was -/
theorem HP.change (h : HP S w0 w H) (i : Nat) {e e' : Ent} (hi : H[i]? = some e) (os : w'.os = w.os) (tape : w'.tape = w.tape) (output : w'.output = w.output) (size : w.heap.size ≤ w'.heap.size)
    (block : ∀ k, k < w.heap.size → e.blk ≠ some k → w'.heap[k]? = w.heap[k]?) (hold : e'.holds w') (hblk : ∀ b, e'.blk = some b → e.blk = some b ∨ w.heap.size ≤ b) : HP S w0 w' (H.set i e') := by
  have hil : i < H.length := (List.getElem?_eq_some_iff.1 hi).1
  have hsplit : H = H.take i ++ e :: H.drop (i + 1) := by
    have := List.getElem?_eq_some_iff.1 hi
    obtain ⟨h1, h2⟩ := this
    rw [← h2]; simp
  have hset : H.set i e' = H.take i ++ e' :: H.drop (i + 1) := List.set_eq_take_append_cons_drop .. |>.trans (by simp [hil])
  have hap := h.apart
  rw [hsplit] at hap
  obtain ⟨ap1, ap2, ap3⟩ := List.pairwise_append.1 hap
  obtain ⟨ap4, ap5⟩ := List.pairwise_cons.1 ap2
  have oth : ∀ x, x ∈ H.take i ++ H.drop (i + 1) → x ∈ H ∧ Apart e x := fun x hx => by
    rcases List.mem_append.1 hx with hx | hx
    · exact ⟨List.mem_of_mem_take hx, (ap3 x hx e (by simp)).symm⟩
    · exact ⟨List.mem_of_mem_drop hx, ap4 x hx⟩
  have hkeep : ∀ x, x ∈ H.take i ++ H.drop (i + 1) → x.holds w' := fun x hx => by
    obtain ⟨hm, ha⟩ := oth x hx
    exact Ent.keep (h.hold x hm) fun b hb => block b (Ent.lt (h.hold x hm) hb) (fun q => ha b q hb)
  have hapart : ∀ x, x ∈ H.take i ++ H.drop (i + 1) → Apart e' x := fun x hx b hb hb' => by
    obtain ⟨hm, ha⟩ := oth x hx
    rcases hblk b hb with q | q
    · exact ha b q hb'
    · have := Ent.lt (h.hold x hm) hb'; omega
  refine ⟨os.trans h.os, tape.trans h.tape, output.trans h.output, Nat.le_trans h.size size, fun k hk hS => ?_, ?_, ?_, ?_⟩
  · rw [block k (Nat.lt_of_lt_of_le hk h.size) (fun q => h.fresh e (List.mem_of_getElem? hi) k q hk hS)]; exact h.keep k hk hS
  · intro x hx
    rw [hset] at hx
    rcases List.mem_append.1 hx with hx | hx
    · exact hkeep x (List.mem_append_left _ hx)
    · rcases List.mem_cons.1 hx with rfl | hx
      · exact hold
      · exact hkeep x (List.mem_append_right _ hx)
  · intro x hx b hb hlt
    rw [hset] at hx
    rcases List.mem_append.1 hx with hx | hx
    · exact h.fresh x (List.mem_of_mem_take hx) b hb hlt
    · rcases List.mem_cons.1 hx with rfl | hx
      · rcases hblk b hb with q | q
        · exact h.fresh e (List.mem_of_getElem? hi) b q hlt
        · have := h.size; omega
      · exact h.fresh x (List.mem_of_mem_drop hx) b hb hlt
  · rw [hset]
    refine List.pairwise_append.2 ⟨ap1, List.pairwise_cons.2 ⟨fun x hx => hapart x (List.mem_append_right _ hx), ap5⟩, fun x hx y hy => ?_⟩
    rcases List.mem_cons.1 hy with rfl | hy
    · exact (hapart x (List.mem_append_left _ hx)).symm
    · exact ap3 x hx y (List.mem_cons_of_mem _ hy)
/-- a cell is stored -/
theorem HP.set (h : HP S w0 w H) (i : Nat) {b off : Nat} {c : Array Value} {T : TypeId} {v : Value} (hi : H[i]? = some (.cel b c T)) : HP S w0 (w.setCell ⟨b, off, none⟩ v) (H.set i (.cel b (c.setIfInBounds off v) T)) :=
  h.change i hi rfl rfl rfl (by simp) (fun k _ hk => heap_setCell_other w _ k v (fun q => hk (by rw [q]; rfl))) (heap_setCell_same w b off c T v (h.get i hi)) (fun b' hb => .inl hb)
theorem HP.setCells (i : Nat) {b : Nat} {T : TypeId} : ∀ (vs : List Value) {off : Nat} {w : World} {H : List Ent} {c : Array Value} (h : HP S w0 w H) (hi : H[i]? = some (.cel b c T)),
    HP S w0 (w.setCells b off vs) (H.set i (.cel b (vs.zipIdx.foldl (fun (c : Array Value) (p : Value × Nat) => c.setIfInBounds (off + p.2) p.1) c) T)) := by
  intro vs
  induction vs with
  | nil =>
    intro off w H c h hi
    have hs : H.set i (.cel b c T) = H := by
      obtain ⟨h1, h2⟩ := List.getElem?_eq_some_iff.1 hi
      rw [← h2]; exact List.set_getElem_self h1
    simp only [List.zipIdx_nil, List.foldl_nil]
    rw [hs]
    exact h
  | cons v vs ih =>
    intro off w H c h hi
    have hil : i < H.length := (List.getElem?_eq_some_iff.1 hi).1
    have h1 := h.set (off := off) (v := v) i hi
    have h2 := ih (off := off + 1) (c := c.setIfInBounds off v) h1 (by simp [hil])
    have hz : (vs.zipIdx 1).foldl (fun (c : Array Value) (p : Value × Nat) => c.setIfInBounds (off + p.2) p.1) (c.setIfInBounds off v) = vs.zipIdx.foldl (fun (c : Array Value) (p : Value × Nat) => c.setIfInBounds (off + 1 + p.2) p.1) (c.setIfInBounds off v) := by
      have : vs.zipIdx 1 = vs.zipIdx.map (fun p => (p.1, p.2 + 1)) := by
        simpa using (List.zipIdx_succ (l := vs) (i := 0))
      rw [this, List.foldl_map]
      congr 1
      funext c p
      rw [show off + (p.2 + 1) = off + 1 + p.2 by omega]
    simp only [List.zipIdx_cons, List.foldl_cons, Nat.add_zero, Nat.zero_add]
    rw [hz]
    rw [List.set_set] at h2
    exact h2
/-- what another call leaves -/
theorem HP.trans {H2 : List Ent} (h : HP S w0 w H) (h2 : HP Tr w w' H2) : HP S w0 w' (H ++ H2) := by
  refine ⟨h2.os.trans h.os, h2.tape.trans h.tape, h2.output.trans h.output, Nat.le_trans h.size h2.size, fun k hk hS => (h2.keep k (Nat.lt_of_lt_of_le hk h.size) trivial).trans (h.keep k hk hS), ?_, ?_, ?_⟩
  · intro e he
    rcases List.mem_append.1 he with he | he
    · exact Ent.keep (h.hold e he) fun b hb => h2.keep b (Ent.lt (h.hold e he) hb) trivial
    · exact h2.hold e he
  · intro e he b hb hlt
    rcases List.mem_append.1 he with he | he
    · exact h.fresh e he b hb hlt
    · exact absurd trivial (h2.fresh e he b hb (Nat.lt_of_lt_of_le hlt h.size))
  · refine List.pairwise_append.2 ⟨h.apart, h2.apart, fun e he e' he' b hb hb' => ?_⟩
    exact h2.fresh e' he' b hb' (Ent.lt (h.hold e he) hb) trivial
theorem HP.call (h : HP S w0 w H) (hb : Below w.heap.size w w') : HP S w0 w' H := by simpa using h.trans (HP.of_below (S := Tr) hb)
end
/-! Appending to a row that grows. -/
theorem append_ent {P : Program} (w : World) (t ty e : TypeId) (i : TypeInfo) (z : Value) (size bytes : Nat) (ht : P.underlying t = some (.slice e)) (hi : P.info? e = some i) (hz : i.zero = some z)
    (hsize : i.size = size) (hby : i.bytes = bytes) (hzs : z.cells.size = size) (hsz : 0 < size)
    (v : Value) (n : Nat) (xs : List Value) (hown : w.ownsRow 0 e size v n xs)
    (a : Addr) (m c : Nat) (news : List Value) (hl : news.length = m * size) (hnews : ∀ j u, news[j]? = some u → w.cell? (a.add j) = some u) (h1 : ∀ u ∈ news, u.oneCell' = true)
    (h63 : n + m ≤ maxLen) (hbytes : (n + m) * bytes ≤ 140737488355328) :
    ∃ v' w', (Builtin.append_ #[t, t] ty #[v, .slice (some a) m c]).run P w = .ok v' w' ∧ w'.ownsRow 0 e size v' (n + m) (xs ++ news) ∧ w.grownBy w' v.ownBlock ∧
      (v' = .slice none 0 0 ↔ v = .slice none 0 0 ∧ m = 0) ∧ (∀ b, v'.ownBlock = some b → v.ownBlock = some b ∨ w.heap.size ≤ b) := by
  obtain ⟨v', w', hr, h2, h3, h4⟩ := run_append_own (P := P) w 0 t ty e i z size bytes ht hi hz hsize hby hzs hsz v n xs hown a m c news hl hnews h1 h63 hbytes (Nat.zero_le _)
  refine ⟨v', w', hr, h2, h3, h4, fun b hb => ?_⟩
  rcases hown.2 with ⟨rfl, rfl⟩ | ⟨g, cap, cur, rfl, -, hg, hnc, hcm, hcs, htake⟩
  · obtain ⟨v2, w2, hr2, h22, -, -⟩ := run_append_own (P := P) w w.heap.size t ty e i z size bytes ht hi hz hsize hby hzs hsz (.slice none 0 0) 0 xs ⟨hown.1, .inl ⟨rfl, rfl⟩⟩ a m c news hl hnews h1 h63 hbytes (Nat.le_refl _)
    rw [hr] at hr2
    cases hr2
    exact .inr (h22.lt b hb).1
  · subst hsize
    subst hby
    by_cases hroom : n + m ≤ cap
    · have hfit : n * i.size + news.length ≤ cur.size := by rw [hl, hcs, ← Nat.add_mul]; exact Nat.mul_le_mul_right _ hroom
      have hr2 := run_append_room (P := P) w t ty e i ht hi g n cap cur hg a m c news hl hnews h1 hroom hfit
      rw [hr] at hr2
      cases hr2
      exact .inl hb
    · have holds : ∀ j u, xs[j]? = some u → w.cell? ((⟨g, 0, none⟩ : Addr).add j) = some u := hown.cells (g := g) rfl
      have hr2 := run_append_grow (P := P) w t ty e i z ht hi hz ⟨g, 0, none⟩ n cap xs hown.1 holds a m c news hl hnews (by omega) (by unfold maxLen at h63; omega) (growslice_fits (by omega) hbytes)
      rw [hr] at hr2
      cases hr2
      simp [Value.ownBlock] at hb
      exact .inr (by omega)
end Fw
end Go.Proofs.Ytmjnakhpekbenaa
namespace Go.Proofs.Ytmjnakhpekbenaa
open Go.RowKit
namespace Fw
section
variable {P : Program} {ρ : Operand → Value} {o : Oper} {w : World}
theorem i64_ok {z : Int} (h1 : -9223372036854775808 ≤ z) (h2 : z ≤ 9223372036854775807) : IntKind.i64.wrap z = z := by rw [IntKind.wrap_i64]; omega
theorem x_bin {b : BinOp} {t u : TypeId} {x y : Operand} {X Y : Value} {v : Value} (ho : o.op = .binOp b t x y u) (hx : ρ x = X) (hy : ρ y = Y) (hg : eqGuard b t x y X Y = pure ()) (hr : (binOp b t X Y).run P w = .ok v w) :
    (execOp ρ o).run P w = .ok (.value v) w := by
  unfold execOp; rw [ho]; simp [hx, hy, hg, hr]
theorem g_int {b : BinOp} {t : TypeId} {x y : Operand} {k : IntKind} {X : Int} {v : Value} : eqGuard b t x y (.int k X) v = pure () := by cases b <;> rfl
theorem x_add {t u : TypeId} {x y : Operand} {X Y Z : Int} (ho : o.op = .binOp .add t x y u) (hx : ρ x = .int .i64 X) (hy : ρ y = .int .i64 Y) (hz : X + Y = Z) (h1 : -9223372036854775808 ≤ Z) (h2 : Z ≤ 9223372036854775807) :
    (execOp ρ o).run P w = .ok (.value (.int .i64 Z)) w := x_bin ho hx hy g_int (by simp [binOp, Op.intArith, hz, i64_ok h1 h2])
theorem x_sub {t u : TypeId} {x y : Operand} {X Y Z : Int} (ho : o.op = .binOp .sub t x y u) (hx : ρ x = .int .i64 X) (hy : ρ y = .int .i64 Y) (hz : X - Y = Z) (h1 : -9223372036854775808 ≤ Z) (h2 : Z ≤ 9223372036854775807) :
    (execOp ρ o).run P w = .ok (.value (.int .i64 Z)) w := x_bin ho hx hy g_int (by simp [binOp, Op.intArith, hz, i64_ok h1 h2])
theorem x_quo {t u : TypeId} {x y : Operand} {X Y Z : Int} (ho : o.op = .binOp .quo t x y u) (hx : ρ x = .int .i64 X) (hy : ρ y = .int .i64 Y) (h0 : Y ≠ 0) (hz : X.tdiv Y = Z) (h1 : -9223372036854775808 ≤ Z) (h2 : Z ≤ 9223372036854775807) :
    (execOp ρ o).run P w = .ok (.value (.int .i64 Z)) w := x_bin ho hx hy g_int (by simp [binOp, Op.intDiv, h0, hz, i64_ok h1 h2])
theorem x_rem {t u : TypeId} {x y : Operand} {X Y Z : Int} (ho : o.op = .binOp .rem t x y u) (hx : ρ x = .int .i64 X) (hy : ρ y = .int .i64 Y) (h0 : Y ≠ 0) (hz : X.tmod Y = Z) :
    (execOp ρ o).run P w = .ok (.value (.int .i64 Z)) w := x_bin ho hx hy g_int (by simp [binOp, Op.intDiv, h0, hz])
theorem tdiv_pos {X Y : Int} (h : 0 ≤ X) (h0 : 0 ≤ Y) : X.tdiv Y = X / Y := Int.tdiv_eq_ediv_of_nonneg h
theorem x_lss {t u : TypeId} {x y : Operand} {k : IntKind} {X Y : Int} {b : Bool} (ho : o.op = .binOp .lss t x y u) (hx : ρ x = .int k X) (hy : ρ y = .int k Y) (hb : decide (X < Y) = b) :
    (execOp ρ o).run P w = .ok (.value (.bool b)) w := x_bin ho hx hy g_int (by simp [binOp, Op.intCmp, ← hb])
theorem x_leq {t u : TypeId} {x y : Operand} {k : IntKind} {X Y : Int} {b : Bool} (ho : o.op = .binOp .leq t x y u) (hx : ρ x = .int k X) (hy : ρ y = .int k Y) (hb : decide (X ≤ Y) = b) :
    (execOp ρ o).run P w = .ok (.value (.bool b)) w := x_bin ho hx hy g_int (by simp [binOp, Op.intCmp, ← hb])
theorem x_gtr {t u : TypeId} {x y : Operand} {k : IntKind} {X Y : Int} {b : Bool} (ho : o.op = .binOp .gtr t x y u) (hx : ρ x = .int k X) (hy : ρ y = .int k Y) (hb : decide (Y < X) = b) :
    (execOp ρ o).run P w = .ok (.value (.bool b)) w := x_bin ho hx hy g_int (by simp [binOp, Op.intCmp, ← hb])
theorem x_geq {t u : TypeId} {x y : Operand} {k : IntKind} {X Y : Int} {b : Bool} (ho : o.op = .binOp .geq t x y u) (hx : ρ x = .int k X) (hy : ρ y = .int k Y) (hb : decide (Y ≤ X) = b) :
    (execOp ρ o).run P w = .ok (.value (.bool b)) w := x_bin ho hx hy g_int (by simp [binOp, Op.intCmp, ← hb])
theorem x_eql {t u : TypeId} {x y : Operand} {k : IntKind} {X Y : Int} {b : Bool} (ho : o.op = .binOp .eql t x y u) (hx : ρ x = .int k X) (hy : ρ y = .int k Y) (hb : decide (X = Y) = b) :
    (execOp ρ o).run P w = .ok (.value (.bool b)) w := x_bin ho hx hy g_int (by simp [binOp, Op.intCmp, ← hb]; rfl)
theorem x_neq {t u : TypeId} {x y : Operand} {k : IntKind} {X Y : Int} {b : Bool} (ho : o.op = .binOp .neq t x y u) (hx : ρ x = .int k X) (hy : ρ y = .int k Y) (hb : decide (X ≠ Y) = b) :
    (execOp ρ o).run P w = .ok (.value (.bool b)) w := x_bin ho hx hy g_int (by simp [binOp, Op.intCmp, ← hb]; rfl)
theorem dT {p : Prop} [Decidable p] (h : p) : decide p = true := decide_eq_true h
theorem dF {p : Prop} [Decidable p] (h : ¬ p) : decide p = false := decide_eq_false h
theorem x_max {t : TypeId} {k : IntKind} {x y : Operand} {ts : Array TypeId} {X Y Z : Int} (ho : o.op = .call { callee := .builtin .max, args := #[x, y], argTypes := ts }) (hx : ρ x = .int k X) (hy : ρ y = .int k Y) (hz : (if Y > X then Y else X) = Z) :
    (execOp ρ o).run P w = .ok (.value (.int k Z)) w := by
  unfold execOp; rw [ho]; simp [resolve, invoke, builtin, hx, hy, Builtin.max_, Builtin.max2, ← hz]
theorem x_min {t : TypeId} {k : IntKind} {x y : Operand} {ts : Array TypeId} {X Y Z : Int} (ho : o.op = .call { callee := .builtin .min, args := #[x, y], argTypes := ts }) (hx : ρ x = .int k X) (hy : ρ y = .int k Y) (hz : (if Y < X then Y else X) = Z) :
    (execOp ρ o).run P w = .ok (.value (.int k Z)) w := by
  unfold execOp; rw [ho]; simp [resolve, invoke, builtin, hx, hy, Builtin.min_, Builtin.min2, ← hz]
/-- the address of an element of a slice -/
theorem x_idx {t e s : Nat} {x y : Operand} {b off n cap : Nat} {I : Int} (i p : Nat) (ho : o.op = .indexAddr t x y) (hx : ρ x = .slice (some ⟨b, off, none⟩) n cap) (hy : ρ y = .int .i64 I)
    (hu : P.underlying t = some (.slice e)) (hs : (P.info? e).map (·.size) = some s) (hI : I = (i : Int)) (hlt : i < n) (hp : off + i * s = p) :
    (execOp ρ o).run P w = .ok (.value (.pointer (some ⟨b, p, none⟩))) w := by
  unfold execOp; rw [ho]
  subst hI
  obtain ⟨inf, hi, rfl⟩ := Option.map_eq_some_iff.1 hs
  have hz : (sizeOf e).run P w = .ok inf.size w := by simp [sizeOf, typeInfo, hi]
  have hadd : (⟨b, off, none⟩ : Addr).add (i * inf.size) = ⟨b, p, none⟩ := by unfold Addr.add; split <;> simp_all
  simp [hx, hy, Instr.indexAt, run_underlying hu, asIntOf, hz, hadd]
  omega
/-- the address of an element of an array in memory -/
theorem x_idxArr {t e s m : Nat} {x y : Operand} {b off : Nat} {I : Int} (i p : Nat) (ho : o.op = .indexAddr t x y) (hx : ρ x = .pointer (some ⟨b, off, none⟩)) (hy : ρ y = .int .i64 I)
    (hu : P.underlying t = some (.array m e)) (hs : (P.info? e).map (·.size) = some s) (hI : I = (i : Int)) (hlt : i < m) (hp : off + i * s = p) :
    (execOp ρ o).run P w = .ok (.value (.pointer (some ⟨b, p, none⟩))) w := by
  unfold execOp; rw [ho]
  subst hI
  obtain ⟨inf, hi, rfl⟩ := Option.map_eq_some_iff.1 hs
  have hz : (sizeOf e).run P w = .ok inf.size w := by simp [sizeOf, typeInfo, hi]
  have hadd : (⟨b, off, none⟩ : Addr).add (i * inf.size) = ⟨b, p, none⟩ := by unfold Addr.add; split <;> simp_all
  simp [hx, hy, Instr.indexAt, run_underlying hu, asIntOf, hz, hadd, Instr.sureAddr]
  omega
/-- a load of one cell -/
theorem x_load {t : Nat} {x : Operand} {a : Addr} {v : Value} {d : TypeDesc} (ho : o.op = .load t x) (hx : ρ x = .pointer (some a)) (hu : P.underlying t = some d) (hd : d.isRow = false) (hc : w.cell? a = some v) :
    (execOp ρ o).run P w = .ok (.value v) w := by
  unfold execOp; rw [ho]
  have hagg : (isAgg t).run P w = .ok false w := by
    unfold isAgg
    rw [Sem.run_bind, run_underlying hu w]
    cases d <;> simp_all
  simp [hx, Instr.loadAt, Instr.sureAddr, loadVar, hagg, hc]
/-- a load of a struct -/
theorem x_loadS {t : Nat} {x : Operand} {b off : Nat} {cs : List Value} {d : TypeDesc} (ho : o.op = .load t x) (hx : ρ x = .pointer (some ⟨b, off, none⟩)) (hu : P.underlying t = some d) (hd : d.isRow = true) (hi : (P.info? t).map (·.size) = some cs.length) (hc : w.rangeAt b off cs) :
    (execOp ρ o).run P w = .ok (.value (.agg cs.toArray)) w := by
  unfold execOp; rw [ho]
  simp [hx, run_loadAt_mid w b off t cs d hc hu hd hi]
/-- a store of one cell -/
theorem x_store {t : Nat} {x y : Operand} {a : Addr} {v u : Value} (ho : o.op = .store t x y) (hx : ρ x = .pointer (some a)) (hy : ρ y = v) (hi : (P.info? t).map (·.size) = some 1) (hone : v.oneCell' = true) (hc : w.cell? a = some u) (hf : w.frozen? a = false) :
    (execOp ρ o).run P w = .ok .skip (w.setCell a v) := by
  unfold execOp; rw [ho]
  obtain ⟨inf, hi, h1⟩ := Option.map_eq_some_iff.1 hi
  have hz : (sizeOf t).run P w = .ok 1 w := by simp [sizeOf, typeInfo, hi, h1]
  have hcs : v.cells = #[v] := by cases v <;> simp_all [Value.cells, Value.oneCell']
  have hadd : a.add 0 = a := by unfold Addr.add; simp
  have hs := run_store P w a v .plain hone
  simp only [hc, hf] at hs
  simp [hx, hy, Instr.storeAt, Instr.sureAddr, storeVar, hcs, hz, storeCells, hadd, hs]
/-- a store of a struct -/
theorem x_storeS {t : Nat} {x y : Operand} {b off : Nat} {cells : Array Value} (ho : o.op = .store t x y) (hx : ρ x = .pointer (some ⟨b, off, none⟩)) (hy : ρ y = .agg cells) (hi : (P.info? t).map (·.size) = some cells.size) (hone : cells.toList.all (·.oneCell') = true) (ht : w.there b off cells.size) :
    (execOp ρ o).run P w = .ok .skip (w.setCells b off cells.toList) := by
  unfold execOp; rw [ho]
  simp [hx, hy, run_storeAt_mid w b off t cells ht hi (by rw [← Array.all_toList]; exact hone)]
/-- a slice of a slice -/
theorem x_sliceH {t e : Nat} {x hi : Operand} {p : Option Addr} {n cap : Nat} {H : Int} (h : Nat) (ho : o.op = .slice t x none (some hi) none) (hx : ρ x = .slice p n cap) (hh : ρ hi = .int .i64 H) (hu : P.underlying t = some (.slice e)) (hH : H = (h : Int)) (hle : h ≤ cap) {s : Nat} (hs : (P.info? e).map (·.size) = some s) :
    (execOp ρ o).run P w = .ok (.value (.slice p h cap)) w := by
  unfold execOp; rw [ho]
  subst hH
  obtain ⟨inf, hi, rfl⟩ := Option.map_eq_some_iff.1 hs
  have hz : (sizeOf e).run P w = .ok inf.size w := by simp [sizeOf, typeInfo, hi]
  have hadd : ∀ a : Addr, a.add 0 = a := fun a => by unfold Addr.add; simp
  cases p <;> simp [hx, hh, Instr.sliceAt, Instr.slice, run_underlying hu, Instr.sliceBounds, Instr.sliceBound, asIntOf, hle, hz, hadd]
theorem x_makeR {t : Nat} {x y : Operand} {X Y v : Value} {w' : World} (ho : o.op = .makeSlice t x y) (hx : ρ x = X) (hy : ρ y = Y) (hr : (Instr.makeSlice t X Y).run P w = .ok v w') :
    (execOp ρ o).run P w = .ok (.value v) w' := by
  unfold execOp; rw [ho]; simp [hx, hy, hr]
/-- append -/
theorem x_append {t : Nat} {x y : Operand} {X Y v' : Value} {w' : World} (ho : o.op = .call { callee := .builtin .append, args := #[x, y], argTypes := #[t, t] }) (hx : ρ x = X) (hy : ρ y = Y) (hr : (Builtin.append_ #[t, t] o.type #[X, Y]).run P w = .ok v' w') :
    (execOp ρ o).run P w = .ok (.value v') w' := by
  unfold execOp; rw [ho]
  simp [resolve, invoke, builtin, hx, hy, hr]
end
end Fw
end Go.Proofs.Ytmjnakhpekbenaa
namespace Go.Proofs.Ytmjnakhpekbenaa
open Go.RowKit
namespace Fw
abbrev vI (x : Int) : Value := .int .i64 x
abbrev vS (g n c : Nat) : Value := .slice (some ⟨g, 0, none⟩) n c
abbrev vP (b o : Nat) : Value := .pointer (some ⟨b, o, none⟩)
def enum : Nat → List Value → List (Nat × Value)
  | _, [] => []
  | k, v :: r => (k, v) :: enum (k + 1) r
theorem look_enum : ∀ (vs : List Value) (k t : Nat) (v : Value), look (enum k vs) t = some v → k ≤ t ∧ vs[t - k]? = some v
  | [], _, _, _, h => by cases h
  | u :: r, k, t, v, h => by
    by_cases e : k = t
    · subst e
      have h' : look ((k, u) :: enum (k + 1) r) k = some v := h
      rw [look_cons_eq] at h'
      cases h'
      exact ⟨Nat.le_refl _, by simp⟩
    · have h' : look ((k, u) :: enum (k + 1) r) t = some v := h
      rw [look_cons_ne e] at h'
      obtain ⟨h1, h2⟩ := look_enum r (k + 1) t v h'
      refine ⟨by omega, ?_⟩
      rw [show t - k = (t - (k + 1)) + 1 by omega]
      simpa using h2
theorem Fr_enter (vs : List Value) (m : Nat) (h : vs.length ≤ m) : Fr m (enum 0 vs) ⟨vs.toArray ++ Array.replicate (m - vs.toArray.size) undef, []⟩ := by
  refine ⟨by simp; omega, rfl, fun t v ht => ?_⟩
  obtain ⟨-, h2⟩ := look_enum vs 0 t v ht
  have hlt : t < vs.length := by have := (List.getElem?_eq_some_iff.1 h2).1; simpa using this
  rw [Array.getElem?_append_left (by simpa using hlt)]
  simpa using h2
def upI (f : Nat → Int) (i : Nat) (v : Int) : Nat → Int := fun j => if j = i then v else f j
/-- a row of n numbers -/
def irow (n : Nat) (f : Nat → Int) : Array Value := (Array.range n).map fun i => .int .i64 (f i)
theorem size_irow (n : Nat) (f : Nat → Int) : (irow n f).size = n := by simp [irow]
theorem irow_get {n j : Nat} {f : Nat → Int} {v : Int} (hj : j < n) (hv : f j = v) : (irow n f)[j]? = some (.int .i64 v) := by simp [irow, hj, hv]
theorem irow_set (n j : Nat) (f : Nat → Int) (v : Int) : (irow n f).setIfInBounds j (.int .i64 v) = irow n (upI f j v) := by
  apply Array.ext
  · simp [irow]
  · intro i h1 h2
    simp only [irow, upI]
    by_cases e : j = i
    · subst e
      simp [Array.getElem_setIfInBounds]
    · have e2 : ¬ i = j := fun q => e q.symm
      rw [Array.getElem_setIfInBounds_ne (by simpa [irow] using h2) e]
      simp [e2]
theorem irow_made (n : Nat) : madeCells #[.int .i64 0] (n * 1) = irow n (fun _ => 0) := by
  simp [madeCells, irow, Nat.mod_one]
section
variable {P : Program} {ops : Array Oper} {Q : Exit → Act → World → Prop} {rest : List Oper} {n : Nat} {l : List (Nat × Value)} {w w0 : World} {S : Nat → Prop} {H H2 : List Ent}
theorem WS.nilQ (h : WQ Q .normal n l w) : WS P ops w (fun a' => Q .normal a' w) [] n l := fun a ha => wpStill_nil (h a ha)
theorem WS.nilL {tl : List Oper} (h : WL P ops Q tl n l w) : WS P ops w (fun a' => wpList P ops Q tl a' w) [] n l := fun a ha => wpStill_nil (h a ha)
theorem HP.range (h : HP S w0 w H) (i : Nat) {b off : Nat} {c : Array Value} {T : TypeId} {cs : List Value} (hi : H[i]? = some (.cel b c T)) (hc : (c.toList.drop off).take cs.length = cs) : w.rangeAt b off cs := fun j v hv => by
  refine h.cell i hi ?_
  rw [← hc, List.getElem?_take] at hv
  split at hv
  · simpa using hv
  · cases hv
theorem HP.oldRange (h : HP S w0 w H) {b off : Nat} {cs : List Value} (hS : S b) (hc : w0.rangeAt b off cs) : w.rangeAt b off cs := fun j v hv => h.old (a := ⟨b, off + j, none⟩) hS (hc j v hv)
theorem HP.loadRow (h : HP S w0 w H) (i : Nat) {b : Nat} {c : Array Value} {T ty : TypeId} {d : TypeDesc} (hi : H[i]? = some (.cel b c T)) (hu : P.underlying ty = some d) (hd : d.isRow = true) (hs : (P.info? ty).map (·.size) = some c.size) :
    (loadVar ty ⟨b, 0, none⟩).run P w = .ok (.agg c) w := by
  have := run_loadVar_mid (P := P) w b 0 ty c.toList d (h.range i hi (by rw [List.drop_zero]; exact List.take_of_length_le (by simp))) hu hd (by simpa using hs)
  simpa using this
theorem WL.alloc {o : Oper} {c : Array Value} {T : TypeId} (hH : HP S w0 w H) (d : Nat) (hd : o.dst = some d) (hn : d < n) (hw : wants ops l o = some true) (hk : known l o = true) (V : Nat → Value)
    (hr : (execOp (evD l) o).run P w = .ok (.value (V w.heap.size)) (w.alloc (.cells c T))) (h : ∀ b w2, w0.heap.size ≤ b ∧ HP S w0 w2 (H ++ [.cel b c T]) → WL P ops Q rest n ((d, V b) :: l) w2) : WL P ops Q (o :: rest) n l w :=
  WL.val d hd hn hw hk hr (h _ _ ⟨hH.size, hH.alloc c T⟩)
theorem WL.store {o : Oper} {t : TypeId} {x y : Operand} {b off : Nat} {c c' : Array Value} {T : TypeId} {v : Value} (i : Nat) (hH : HP S w0 w H) (ho : o.op = .store t x y) (hd : o.dst = none) (hw : wants ops l o = some true)
    (hi : H[i]? = some (.cel b c T)) (hx : ev l x = some (.pointer (some ⟨b, off, none⟩))) (hy : ev l y = some v) (hs : (P.info? t).map (·.size) = some 1) (h1 : v.oneCell' = true) (hlt : off < c.size) (hc : c.setIfInBounds off v = c') (h2 : H.set i (.cel b c' T) = H2)
    (h : ∀ w2, HP S w0 w2 H2 → WL P ops Q rest n l w2) : WL P ops Q (o :: rest) n l w := by
  intro a ha
  refine wpList_step fun K hK => ?_
  rw [if_pos (wants_spec ha hw)]
  unfold Oper.wp
  rw [x_store (P := P) ho (ha.ev hx) (ha.ev hy) hs h1 (hH.cell i hi (Array.getElem?_eq_getElem hlt)) (hH.free i hi), Oper.upon_skip, hd]
  refine hK _ _ (h _ ?_ _ ha)
  rw [← h2, ← hc]
  exact hH.set i hi
theorem WL.storeS {o : Oper} {t : TypeId} {x y : Operand} {b off : Nat} {c c' cells : Array Value} {T : TypeId} (i : Nat) (hH : HP S w0 w H) (ho : o.op = .store t x y) (hd : o.dst = none) (hw : wants ops l o = some true)
    (hi : H[i]? = some (.cel b c T)) (hx : ev l x = some (.pointer (some ⟨b, off, none⟩))) (hy : ev l y = some (.agg cells)) (hs : (P.info? t).map (·.size) = some cells.size) (h1 : cells.toList.all (·.oneCell') = true) (hlt : off + cells.size ≤ c.size)
    (hc : cells.toList.zipIdx.foldl (fun (c : Array Value) (p : Value × Nat) => c.setIfInBounds (off + p.2) p.1) c = c') (h2 : H.set i (.cel b c' T) = H2)
    (h : ∀ w2, HP S w0 w2 H2 → WL P ops Q rest n l w2) : WL P ops Q (o :: rest) n l w := by
  intro a ha
  refine wpList_step fun K hK => ?_
  rw [if_pos (wants_spec ha hw)]
  unfold Oper.wp
  rw [x_storeS (P := P) ho (ha.ev hx) (ha.ev hy) hs h1 (fun j hj => ⟨by rw [hH.cell i hi (Array.getElem?_eq_getElem (show off + j < c.size by omega))]; rfl, hH.free i hi⟩), Oper.upon_skip, hd]
  refine hK _ _ (h _ ?_ _ ha)
  rw [← h2, ← hc]
  exact HP.setCells i cells.toList hH hi
/-- one element is appended to a row that grows; the element lies in a block of its own, the last of the list -/
theorem WL.append {o : Oper} {t e : TypeId} {inf : TypeInfo} {z : Value} {sz by' : Nat} {x y : Operand} {v : Value} {k m : Nat} {xs news : List Value} {bn cp : Nat} {cn : Array Value} (i j : Nat) (hH : HP S w0 w H) (d : Nat) (hd : o.dst = some d) (hn : d < n) (hw : wants ops l o = some true)
    (ho : o.op = .call { callee := .builtin .append, args := #[x, y], argTypes := #[t, t] }) (hx : ev l x = some v) (hy : ev l y = some (.slice (some ⟨bn, 0, none⟩) m cp))
    (ht : P.underlying t = some (.slice e)) (hi' : P.info? e = some inf) (hz : inf.zero = some z) (hsz : inf.size = sz) (hby : inf.bytes = by') (hzs : z.cells.size = sz) (h0 : 0 < sz)
    (hi : H[i]? = some (.own v k xs e sz)) (hj : H[j]? = some (.cel bn cn e)) (hnews : cn.toList.take news.length = news) (hl : news.length = m * sz) (h1 : ∀ u ∈ news, u.oneCell' = true) (h63 : k + m ≤ maxLen) (hb : (k + m) * by' ≤ 140737488355328)
    (h : ∀ v' w2, (v' = .slice none 0 0 ↔ v = .slice none 0 0 ∧ m = 0) → HP S w0 w2 (H.set i (.own v' (k + m) (xs ++ news) e sz)) → WL P ops Q rest n ((d, v') :: l) w2) : WL P ops Q (o :: rest) n l w := by
  intro a ha
  refine wpList_step fun K hK => ?_
  rw [if_pos (wants_spec ha hw)]
  obtain ⟨v', w2, hr, g1, g2, g3, g4⟩ := append_ent (P := P) w t o.type e inf z sz by' ht hi' hz hsz hby hzs h0 v k xs (hH.get i hi) ⟨bn, 0, none⟩ m cp news hl (fun q u hu => by
    rw [Addr.add_mid]
    exact hH.range j hj (by simpa using hnews) q u hu) h1 h63 hb
  unfold Oper.wp
  rw [x_append (P := P) ho (ha.ev hx) (ha.ev hy) hr, Oper.upon_value, hd]
  refine hK _ _ (h v' w2 g3 ?_ _ (ha.put hn v'))
  exact hH.change i hi g2.os g2.tape g2.output g2.size (fun q hq hne => g2.block q hq fun e => hne e.symm) ⟨g1.1, g1.2⟩ g4
end
end Fw
end Go.Proofs.Ytmjnakhpekbenaa
namespace Go.Proofs.Ytmjnakhpekbenaa
open Go.RowKit
namespace Fw
section
variable {P : Program} {ops : Array Oper} {Q : Exit → Act → World → Prop} {n : Nat} {l l0 : List (Nat × Value)} {w w0 : World}
def updD (D : Nat → Bool) (i : Nat) : Nat → Bool := fun j => match Nat.beq j i with
  | true => true
  | false => D j
theorem updD_same (D : Nat → Bool) (i : Nat) : updD D i i = true := by
  unfold updD; rw [show Nat.beq i i = true from Nat.beq_refl i]
theorem updD_ne {D : Nat → Bool} {i j : Nat} (h : j ≠ i) : updD D i j = D j := by
  unfold updD
  cases hb : Nat.beq j i
  · rfl
  · exact absurd (Nat.eq_of_beq_eq_true hb) h
/-- every edge goes back -/
def backB (ops : List Oper) : Bool := ops.zipIdx.all fun p => p.1.after.toList.all fun e => !Region.binds .any e || Nat.blt e.on p.2
theorem any_inv (I : (Nat → Bool) → Act → World → Prop) (hback : ∀ (i : Nat) (o : Oper), ops[i]? = some o → ∀ e ∈ o.after, Region.binds .any e = true → e.on < i)
    (hstep : ∀ D a w i o, I D a w → ops[i]? = some o → D i = false → (∀ e ∈ o.after, Region.binds .any e = true → D e.on = true) → wpOp P ops Q i (I (updD D i)) a w)
    (hend : ∀ D a w, I D a w → (∀ i, i < ops.size → D i = true) → Q .normal a w) :
    ∀ (fuel : Nat) (listed : Array Bool) (a : Act) (w : World), listed.size = ops.size → (listed.toList.filter (! ·)).length ≤ fuel → I (fun j => listed.getD j false) a w → wpAny P .any ops Q fuel listed a w := by
  have hdone : ∀ (listed : Array Bool), listed.size = ops.size → Region.ready .any ops listed = [] → ∀ i, i < ops.size → listed.getD i false = true := by
    intro listed hsz hr i
    induction i using Nat.strongRecOn with
    | _ i ih =>
      intro hi
      cases hl : listed.getD i false with
      | true => rfl
      | false =>
        exfalso
        have hmem : i ∈ Region.ready .any ops listed := by
          rw [mem_ready]
          refine ⟨?_, ops[i], Array.getElem?_eq_getElem hi, fun e he hb => ?_⟩
          · have hi' : i < listed.size := by omega
            simp [hi'] at hl ⊢
            exact hl
          · have := hback i ops[i] (Array.getElem?_eq_getElem hi) e he hb
            exact ih e.on this (by omega)
        rw [hr] at hmem; cases hmem
  intro fuel
  induction fuel with
  | zero =>
    intro listed a w hsz hcnt hI
    have hall : ∀ i, i < listed.size → listed.getD i false = true := by
      intro i hi
      have h0 : listed.toList.filter (! ·) = [] := List.length_eq_zero_iff.1 (by omega)
      rw [List.filter_eq_nil_iff] at h0
      have := h0 listed[i] (by simp)
      simpa [hi] using this
    have hr : Region.ready .any ops listed = [] := by
      refine List.eq_nil_iff_forall_not_mem.2 fun j hj => ?_
      rw [mem_ready] at hj
      obtain ⟨h1, o, ho, -⟩ := hj
      have hj' : j < listed.size := by rw [hsz]; exact (Array.getElem?_eq_some_iff.1 ho).1
      have := hall j hj'
      simp [hj'] at h1 this
      rw [h1] at this; cases this
    exact ⟨hr, hend _ a w hI fun i hi => hall i (by omega)⟩
  | succ fuel ih =>
    intro listed a w hsz hcnt hI
    refine ⟨fun hr => hend _ a w hI fun i hi => hdone listed hsz hr i hi, fun i hi => ?_⟩
    have hi' := hi
    rw [mem_ready] at hi
    obtain ⟨h1, o, ho, hdep⟩ := hi
    have hlt : i < ops.size := (Array.getElem?_eq_some_iff.1 ho).1
    have hlt' : i < listed.size := by omega
    have hf : listed[i] = false := by simpa [hlt'] using h1
    have hD : ∀ j, (listed.setIfInBounds i true).getD j false = updD (fun j => listed.getD j false) i j := by
      intro j
      by_cases e : j = i
      · subst e; rw [updD_same]; simp [hlt']
      · rw [updD_ne e, getD_set_ne false (Ne.symm e)]
    refine wpOp_mono (fun a' w' h => ih (listed.setIfInBounds i true) a' w' (by simpa using hsz) ?_ ?_) (hstep _ a w i o hI ho (by simpa [hlt'] using hf) hdep)
    · have hset : (listed.setIfInBounds i true).toList = listed.toList.take i ++ true :: listed.toList.drop (i + 1) := by
        rw [Array.toList_setIfInBounds, List.set_eq_take_append_cons_drop]
        simp [hlt']
      have hold : listed.toList = listed.toList.take i ++ false :: listed.toList.drop (i + 1) := by
        have q : listed.toList[i]'(by simpa using hlt') = false := by simpa using hf
        have q2 := (List.take_append_drop i listed.toList).symm
        rw [List.drop_eq_getElem_cons (by simpa using hlt'), q] at q2
        exact q2
      rw [hset]
      rw [hold] at hcnt
      simp only [List.filter_append, List.length_append, List.filter_cons] at hcnt ⊢
      simp at hcnt ⊢
      omega
    · rw [show (fun j => (listed.setIfInBounds i true).getD j false) = updD (fun j => listed.getD j false) i from funext hD]
      exact h
def distB : List Oper → Bool
  | [] => true
  | o :: r => (match o.dst with
    | none => true
    | some d => r.all fun o' => match o'.dst with
      | some d' => !Nat.beq d d'
      | none => true) && distB r
theorem distB_spec : ∀ {ls : List Oper}, distB ls = true → ∀ (i j : Nat) (o o' : Oper) (d : Nat), i < j → ls[i]? = some o → ls[j]? = some o' → o.dst = some d → o'.dst ≠ some d
  | [], _, i, j, o, o', d, _, h, _, _ => by simp at h
  | x :: r, hb, 0, j + 1, o, o', d, _, h, h', hd => by
    simp at h; subst h
    simp only [distB, hd, Bool.and_eq_true] at hb
    have hm : o' ∈ r := List.mem_of_getElem? (by simpa using h')
    have := List.all_eq_true.1 hb.1 o' hm
    intro e
    rw [e] at this
    simp only [] at this
    rw [show Nat.beq d d = true from Nat.beq_refl d] at this
    cases this
  | x :: r, hb, i + 1, j + 1, o, o', d, hij, h, h', hd => by
    simp only [distB, Bool.and_eq_true] at hb
    exact distB_spec hb.2 i j o o' d (by omega) (by simpa using h) (by simpa using h') hd
  | x :: r, hb, _, 0, o, o', d, hij, _, _, _ => by omega
/-- the slots of the frame that no operation of the region writes -/
def freeB (ops : List Oper) (l0 : List (Nat × Value)) : Bool := l0.all fun p => ops.all fun o => match o.dst with
  | some d => !Nat.beq d p.1
  | none => true
def depEnv (ops : Array Oper) (vs : List Value) (o : Oper) : List (Nat × Value) :=
  o.after.toList.filterMap fun e => match Region.binds .any e with
    | true => ((ops[e.on]?).bind (·.dst)).map fun d => (d, (vs[e.on]?).getD undef)
    | false => none
theorem look_append {l l' : List (Nat × Value)} {t : Nat} {v : Value} (h : look (l ++ l') t = some v) : (t, v) ∈ l ∨ look l' t = some v := by
  induction l with
  | nil => exact .inr h
  | cons p r ih =>
    obtain ⟨s, u⟩ := p
    have h' : look ((s, u) :: (r ++ l')) t = some v := h
    by_cases e : s = t
    · subst e; rw [look_cons_eq] at h'; cases h'; exact .inl (by simp)
    · rw [look_cons_ne e] at h'
      rcases ih h' with q | q
      · exact .inl (by simp [q])
      · exact .inr q
theorem look_mem {l : List (Nat × Value)} {t : Nat} {v : Value} (h : look l t = some v) : (t, v) ∈ l := by
  have : look (l ++ []) t = some v := by simpa using h
  rcases look_append this with q | q
  · exact q
  · cases q
/-- the operations done are closed under what stands before them -/
def Clo (ops : Array Oper) (D : Nat → Bool) : Prop := ∀ (j : Nat) (o : Oper), ops[j]? = some o → D j = true → ∀ e ∈ o.after, Region.binds .any e = true → D e.on = true
/-- What is asked of one operation: whatever has been done, it yields its value and hands on what holds. γ: what the order chooses. -/
def OpOk {γ : Type} (P : Program) (ops : Array Oper) (l0 : List (Nat × Value)) (vs : γ → List Value) (WI : γ → (Nat → Bool) → World → Prop) (i : Nat) (o : Oper) : Prop :=
  ∀ g D w, D i = false → (∀ e ∈ o.after, Region.binds .any e = true → D e.on = true) → Clo ops D → WI g D w →
    (wants ops (depEnv ops (vs g) o ++ l0) o = some true ∧ known (depEnv ops (vs g) o ++ l0) o = true ∧
      ((∃ g' w', (∀ j, D j = true → (vs g')[j]? = (vs g)[j]?) ∧ (execOp (evD (depEnv ops (vs g) o ++ l0)) o).run P w = .ok (.value (((vs g')[i]?).getD undef)) w' ∧ WI g' (updD D i) w') ∨
       (∃ w', (execOp (evD (depEnv ops (vs g) o ++ l0)) o).run P w = .ok .skip w' ∧ o.dst = none ∧ WI g (updD D i) w') ∨
       (∃ f args, (execOp (evD (depEnv ops (vs g) o ++ l0)) o).run P w = .ok (.enter f args) w ∧ Calls P f args w fun e w' => ∃ g', (∀ j, D j = true → (vs g')[j]? = (vs g)[j]?) ∧ e = .returned (((vs g')[i]?).getD undef) ∧ WI g' (updD D i) w'))) ∨
    (wants ops (depEnv ops (vs g) o ++ l0) o = some false ∧ ((vs g)[i]?).getD undef = undef ∧ WI g (updD D i) w)
inductive AllOk {γ : Type} (P : Program) (ops : Array Oper) (l0 : List (Nat × Value)) (vs : γ → List Value) (WI : γ → (Nat → Bool) → World → Prop) : Nat → List Oper → Prop
  | nil (k : Nat) : AllOk P ops l0 vs WI k []
  | cons {k : Nat} {o : Oper} {r : List Oper} (h : OpOk P ops l0 vs WI k o) (t : AllOk P ops l0 vs WI (k + 1) r) : AllOk P ops l0 vs WI k (o :: r)
theorem AllOk.get {γ : Type} {vs : γ → List Value} {WI : γ → (Nat → Bool) → World → Prop} : ∀ {ls : List Oper} {k i : Nat} {o : Oper}, AllOk P ops l0 vs WI k ls → ls[i]? = some o → OpOk P ops l0 vs WI (k + i) o
  | [], _, i, _, _, h => by simp at h
  | x :: r, k, 0, o, h, hi => by cases h; simp at hi; subst hi; simpa
  | x :: r, k, i + 1, o, h, hi => by
    cases h with
    | cons h1 h2 =>
      have := AllOk.get h2 (i := i) (by simpa using hi)
      rw [show k + (i + 1) = k + 1 + i by omega]; exact this
/-- all that is known at the region's end -/
def allEnv (ls : List Oper) (vs : List Value) : List (Nat × Value) := (ls.zip vs).filterMap fun p => p.1.dst.map fun d => (d, p.2)
theorem WC.confG {γ : Type} {id : Nat} {ls : List Oper} (l0 : List (Nat × Value)) (vs : γ → List Value) (WI : γ → (Nat → Bool) → World → Prop) (g0 : γ) (hm : P.follows .mixedOrders = true)
    (hsub : Sub l0 l) (hb : backB ls = true) (hd : distB ls = true) (hf : freeB ls l0 = true) (hlen : ∀ g, (vs g).length = ls.length) (hn : (ls.all fun o => match o.dst with | some d => Nat.blt d n | none => true) = true)
    (h0 : WI g0 (fun _ => false) w.drew) (hops : AllOk P ls.toArray l0 vs WI 0 ls)
    (hend : ∀ g D w2, (∀ i, Nat.blt i ls.length = true → D i = true) → WI g D w2 → WQ Q .normal n (allEnv ls (vs g) ++ l0) w2) : WC P (.region id ls.toArray true) Q n l w := by
  intro a ha
  refine wp_region_any hm ?_
  have hdst : ∀ (i j : Nat) (o o' : Oper) (d : Nat), ls[i]? = some o → ls[j]? = some o' → o.dst = some d → o'.dst = some d → i = j := fun i j o o' d h1 h2 h3 h4 => by
    rcases Nat.lt_trichotomy i j with q | q | q
    · exact absurd h4 (distB_spec hd i j o o' d q h1 h2 h3)
    · exact q
    · exact absurd h3 (distB_spec hd j i o' o d q h2 h1 h4)
  have hfree : ∀ (i : Nat) (o : Oper) (d : Nat) (t : Nat) (v : Value), ls[i]? = some o → o.dst = some d → look l0 t = some v → d ≠ t := fun i o d t v h1 h2 h3 e => by
    have q := List.all_eq_true.1 (List.all_eq_true.1 hf (t, v) (look_mem h3)) o (List.mem_of_getElem? h1)
    rw [h2] at q
    simp only [] at q
    subst e
    rw [show Nat.beq d d = true from Nat.beq_refl d] at q
    cases q
  have hnn : ∀ (i : Nat) (o : Oper) (d : Nat), ls[i]? = some o → o.dst = some d → d < n := fun i o d h1 h2 => by
    have q := List.all_eq_true.1 hn o (List.mem_of_getElem? h1)
    rw [h2] at q
    exact Nat.le_of_ble_eq_true q
  let I : (Nat → Bool) → Act → World → Prop := fun D a w => ∃ g, a.tmps.size = n ∧ a.defers = [] ∧
    (∀ (j : Nat) (o : Oper) (d : Nat), ls[j]? = some o → D j = true → o.dst = some d → a.tmps[d]? = some (((vs g)[j]?).getD undef)) ∧ (∀ t v, look l0 t = some v → a.tmps[t]? = some v) ∧ Clo ls.toArray D ∧ WI g D w
  refine any_inv (ops := ls.toArray) I ?_ ?_ ?_ _ _ a _ (by simp) (by
    refine Nat.le_trans (List.length_filter_le _ _) ?_
    simp) ?_
  · intro i o ho e he hbe
    have hm' : (o, i) ∈ ls.zipIdx := by
      rw [List.mem_zipIdx_iff_getElem?]; simpa using ho
    have q := List.all_eq_true.1 (List.all_eq_true.1 hb (o, i) hm') e (by simpa using he)
    rw [hbe] at q
    simpa using q
  · rintro D a w i o ⟨g, i1, i2, i3, i4, i6, i5⟩ ho hDi hdep
    have ho' : ls[i]? = some o := by simpa using ho
    have hfr : Fr n (depEnv ls.toArray (vs g) o ++ l0) a := by
      refine ⟨i1, i2, fun t v ht => ?_⟩
      rcases look_append ht with q | q
      · obtain ⟨e, he, heq⟩ := List.mem_filterMap.1 q
        cases hbe : Region.binds .any e with
        | false => rw [hbe] at heq; cases heq
        | true =>
          rw [hbe] at heq
          simp only [] at heq
          cases hoe : ls.toArray[e.on]? with
          | none => rw [hoe] at heq; cases heq
          | some oe =>
            rw [hoe] at heq
            simp only [Option.bind_some] at heq
            cases hde : oe.dst with
            | none => rw [hde] at heq; cases heq
            | some d =>
              rw [hde] at heq
              simp only [Option.map_some, Option.some.injEq, Prod.mk.injEq] at heq
              obtain ⟨rfl, rfl⟩ := heq
              exact i3 e.on oe d (by simpa using hoe) (hdep e (by simpa using he) hbe) hde
      · exact i4 t v q
    have hclo : Clo ls.toArray (updD D i) := fun j oj hj hDj e he hbe => by
      by_cases q : j = i
      · subst q
        rw [ho] at hj; cases hj
        by_cases q2 : e.on = j
        · rw [q2]; exact updD_same D j
        · rw [updD_ne q2]; exact hdep e he hbe
      · rw [updD_ne q] at hDj
        by_cases q2 : e.on = i
        · rw [q2]; exact updD_same D i
        · rw [updD_ne q2]; exact i6 j oj hj hDj e he hbe
    have hnext : ∀ (g' : γ) (v : Value) (w' : World), (∀ j, D j = true → (vs g')[j]? = (vs g)[j]?) → (∀ d, o.dst = some d → v = ((vs g')[i]?).getD undef) → WI g' (updD D i) w' → I (updD D i) (a.put o.dst v) w' := fun g' v w' hg hv hW => by
      refine ⟨g', ?_, ?_, ?_, ?_, hclo, hW⟩
      · cases o.dst <;> simp [Act.put, i1]
      · cases o.dst <;> simp [Act.put, i2]
      · intro j oj d hj hDj hdj
        by_cases e : j = i
        · subst e
          rw [ho'] at hj; cases hj
          rw [hdj, ← hv d hdj]
          have := hnn _ _ _ ho' hdj
          simp [Act.put, i1, this]
        · rw [updD_ne e] at hDj
          have h1 := i3 j oj d hj hDj hdj
          rw [← hg j hDj] at h1
          cases hdo : o.dst with
          | none => simpa [Act.put] using h1
          | some d' =>
            have hne : d' ≠ d := fun q => e (hdst j i oj o d hj ho' hdj (by rw [hdo, q]))
            simp [Act.put, Array.getElem?_setIfInBounds_ne hne, h1]
      · intro t u hu
        cases hdo : o.dst with
        | none => simpa [Act.put] using i4 t u hu
        | some d' =>
          have hne := hfree i o d' t u ho' hdo hu
          simp [Act.put, Array.getElem?_setIfInBounds_ne hne, i4 t u hu]
    have hok := AllOk.get hops ho'
    rw [Nat.zero_add] at hok
    unfold wpOp
    simp only [ho]
    rcases hok g D w hDi hdep i6 i5 with ⟨h1, h2, h3⟩ | ⟨h1, h2, h3⟩
    · rw [if_pos (wants_spec hfr h1)]
      refine .inl ?_
      unfold Oper.wp
      rw [exec_known hfr h2]
      rcases h3 with ⟨g', w', hg, hr, hW⟩ | ⟨w', hr, hdn, hW⟩ | ⟨f, args, hr, hc⟩
      · rw [hr, Oper.upon_value]
        exact hnext g' _ _ hg (fun _ _ => rfl) hW
      · rw [hr, Oper.upon_skip]
        exact hnext g _ _ (fun _ _ => rfl) (fun d hd' => by rw [hdn] at hd'; cases hd') hW
      · rw [hr, Oper.upon_enter]
        refine hc.mono ?_
        rintro e w' ⟨g', hg, rfl, hW⟩
        exact hnext g' _ _ hg (fun _ _ => rfl) hW
    · rw [if_neg (by rw [wants_spec hfr h1]; exact Bool.false_ne_true)]
      exact hnext g _ _ (fun _ _ => rfl) (fun _ _ => h2.symm) h3
  · rintro D a w ⟨g, i1, i2, i3, i4, i6, i5⟩ hall
    refine hend g D w (fun i hi => hall i (by simpa using hi)) i5 a ⟨i1, i2, fun t v ht => ?_⟩
    rcases look_append ht with q | q
    · obtain ⟨⟨o, u⟩, hp, heq⟩ := List.mem_filterMap.1 q
      obtain ⟨j, hj⟩ := List.mem_iff_getElem?.1 hp
      rw [List.getElem?_zip_eq_some] at hj
      cases hdo : o.dst with
      | none => simp [hdo] at heq
      | some d =>
        simp [hdo] at heq
        obtain ⟨rfl, rfl⟩ := heq
        have := i3 j o d hj.1 (hall j (by have := (List.getElem?_eq_some_iff.1 hj.1).1; simpa using this)) hdo
        rw [hj.2] at this
        simpa using this
    · exact i4 t v q
  · have hno : ∀ j, (Array.replicate ls.toArray.size false).getD j false = true → False := fun j hDj' => by
      by_cases hj : j < ls.length
      · simp [hj] at hDj'
      · simp [hj] at hDj'
    refine ⟨g0, ha.sz, ha.df, fun j o d _ hDj _ => (hno j hDj).elim, fun t v ht => ha.kn t v (hsub.look ht), fun j o _ hDj => (hno j hDj).elim, ?_⟩
    · have : (fun j => (Array.replicate ls.toArray.size false).getD j false) = fun _ => false := by
        funext j
        by_cases hj : j < ls.length <;> simp [hj]
      rw [this]
      exact h0
end
theorem HP.perm {S : Nat → Prop} {w0 w : World} {H H' : List Ent} (h : HP S w0 w H) (hp : H.Perm H') : HP S w0 w H' :=
  ⟨h.os, h.tape, h.output, h.size, h.keep, fun e he => h.hold e (hp.mem_iff.2 he), fun e he => h.fresh e (hp.mem_iff.2 he), h.apart.perm hp (fun hq => hq.symm)⟩
end Fw
end Go.Proofs.Ytmjnakhpekbenaa
namespace Go.Proofs.Ytmjnakhpekbenaa
open Go.RowKit
namespace Fw
section
variable {P : Program} {ρ : Operand → Value} {o : Oper} {ops : Array Oper} {Q : Exit → Act → World → Prop} {rest : List Oper} {n : Nat} {l : List (Nat × Value)} {w w0 : World} {S : Nat → Prop} {H H2 : List Ent}
theorem x_neqA {t u : TypeId} {x y : Operand} {xs ys : Array Value} {b b' : Bool} (ho : o.op = .binOp .neq t x y u) (hx : ρ x = .agg xs) (hy : ρ y = .agg ys) (hm : P.eqGuardType P.depth t = false) (he : (Op.equalIn 10000 t (.agg xs) (.agg ys)).run P w = .ok b w) (hb : (!b) = b') :
    (execOp ρ o).run P w = .ok (.value (.bool b')) w := by
  unfold execOp; rw [ho]; simp [hx, hy, run_eqGuard_agg _ _ _ _ _ _ _ hm, run_neq_struct, he, hb]
theorem HP.setSame (h : HP S w0 w H) (i : Nat) {e e' : Ent} (hi : H[i]? = some e) (hold : e'.holds w) (hb : e'.blk = e.blk) : HP S w0 w (H.set i e') :=
  h.change i hi rfl rfl rfl (Nat.le_refl _) (fun _ _ _ => rfl) hold (fun b q => .inl (by rw [← hb]; exact q))
/-- a slice is appended to a row that grows; the slice came in, or lies in the list -/
theorem WL.appendSrc {o : Oper} {t e : TypeId} {inf : TypeInfo} {z : Value} {sz by' : Nat} {x y : Operand} {v : Value} {k m : Nat} {xs : List Value} (news : List Value) {p : Option Addr} {cp : Nat} (i : Nat) (hH : HP S w0 w H) (d : Nat) (hd : o.dst = some d) (hn : d < n) (hw : wants ops l o = some true)
    (ho : o.op = .call { callee := .builtin .append, args := #[x, y], argTypes := #[t, t] }) (hx : ev l x = some v) (hy : ev l y = some (.slice p m cp))
    (ht : P.underlying t = some (.slice e)) (hi' : P.info? e = some inf) (hz : inf.zero = some z) (hsz : inf.size = sz) (hby : inf.bytes = by') (hzs : z.cells.size = sz) (h0 : 0 < sz)
    (hi : H[i]? = some (.own v k xs e sz)) (hsrc : (∃ a, p = some a ∧ ∀ q u, news[q]? = some u → w.cell? (a.add q) = some u) ∨ (p = none ∧ m = 0 ∧ cp = 0)) (hl : news.length = m * sz) (h1 : ∀ u ∈ news, u.oneCell' = true) (h63 : k + m ≤ maxLen) (hb : (k + m) * by' ≤ 140737488355328)
    (h : ∀ v' w2, (v' = .slice none 0 0 ↔ v = .slice none 0 0 ∧ m = 0) → HP S w0 w2 (H.set i (.own v' (k + m) (xs ++ news) e sz)) → WL P ops Q rest n ((d, v') :: l) w2) : WL P ops Q (o :: rest) n l w := by
  intro a ha
  refine wpList_step fun K hK => ?_
  rw [if_pos (wants_spec ha hw)]
  unfold Oper.wp
  rcases hsrc with ⟨ad, rfl, hc⟩ | ⟨rfl, rfl, rfl⟩
  · obtain ⟨v', w2, hr, g1, g2, g3, g4⟩ := append_ent (P := P) w t o.type e inf z sz by' ht hi' hz hsz hby hzs h0 v k xs (hH.get i hi) ad m cp news hl hc h1 h63 hb
    rw [x_append (P := P) ho (ha.ev hx) (ha.ev hy) hr, Oper.upon_value, hd]
    refine hK _ _ (h v' w2 g3 ?_ _ (ha.put hn v'))
    exact hH.change i hi g2.os g2.tape g2.output g2.size (fun q hq hne => g2.block q hq fun e => hne e.symm) ⟨g1.1, g1.2⟩ g4
  · have hnil : news = [] := List.length_eq_zero_iff.1 (by rw [hl]; simp)
    subst hnil
    have hr := run_append_owned_none (P := P) (w := w) 0 t o.type e inf sz ht hi' v k xs (hH.get i hi)
    rw [x_append (P := P) ho (ha.ev hx) (ha.ev hy) hr, Oper.upon_value, hd]
    refine hK _ _ (h v w (by simp) ?_ _ (ha.put hn v))
    exact hH.setSame i hi (by have q := hH.get i hi; simpa using q) rfl
/-- an empty row of its own -/
theorem HP.ownNil (h : HP S w0 w H) (e s : Nat) : HP S w0 w (H ++ [.own (.slice none 0 0) 0 [] e s]) := by
  refine ⟨h.os, h.tape, h.output, h.size, h.keep, ?_, ?_, ?_⟩
  · intro x hx
    rcases List.mem_append.1 hx with hx | hx
    · exact h.hold x hx
    · simp at hx; subst hx; exact World.ownsRow_nil _ _ _ _
  · intro x hx b hb'
    rcases List.mem_append.1 hx with hx | hx
    · exact h.fresh x hx b hb'
    · simp at hx; subst hx; simp [Ent.blk, Value.ownBlock] at hb'
  · refine List.pairwise_append.2 ⟨h.apart, by simp, fun x hx y hy b hb1 hb2 => ?_⟩
    simp at hy; subst hy; simp [Ent.blk, Value.ownBlock] at hb2
end
end Fw
end Go.Proofs.Ytmjnakhpekbenaa
namespace Go.Proofs.Ytmjnakhpekbenaa
open Go.RowKit Fw
namespace Fw
/-- a slice of numbers that came in -/
def InI (w : World) (p : Option Addr) (xs : List Int) : Prop := 0 < xs.length → ∃ g o, p = some ⟨g, o, none⟩ ∧ ∀ i, i < xs.length → w.rangeAt g (o + i) [vI (xs.getD i 0)]
theorem InI.below {w w' : World} {p : Option Addr} {xs : List Int} (h : InI w p xs) (hb : Below w.heap.size w w') : InI w' p xs := fun h0 => by
  obtain ⟨g, o, hp, hr⟩ := h h0
  exact ⟨g, o, hp, fun i hi => HP.oldRange (HP.of_below (S := Tr) hb) trivial (hr i hi)⟩
/-- within the word -/
def Wi (x : Int) : Prop := -9223372036854775808 ≤ x ∧ x ≤ 9223372036854775807
theorem wi_of {x : Int} (h : (Lit.int .i64 x).wf = true) : Wi x := by
  simp only [Lit.wf, Bool.and_eq_true, decide_eq_true_eq] at h
  rw [show IntKind.i64.min = -9223372036854775808 from by decide, show IntKind.i64.max = 9223372036854775807 from by decide] at h
  exact h
end Fw
end Go.Proofs.Ytmjnakhpekbenaa
namespace Go.Proofs.Ytmjnakhpekbenaa
open Go.RowKit
namespace Fw
section
variable {P : Program} {ρ : Operand → Value} {o : Oper} {ops : Array Oper} {Q : Exit → Act → World → Prop} {rest : List Oper} {n : Nat} {l : List (Nat × Value)} {w w' w0 : World} {S : Nat → Prop} {H H2 : List Ent}
theorem HP.ownToCel (h : HP S w0 w H) (i : Nat) {g n cap e s : Nat} {xs : List Value} (hi : H[i]? = some (.own (.slice (some ⟨g, 0, none⟩) n cap) n xs e s)) :
    ∃ cur : Array Value, HP S w0 w (H.set i (.cel g cur e)) ∧ n ≤ cap ∧ cap ≤ maxLen ∧ cur.size = cap * s ∧ cur.toList.take (n * s) = xs := by
  have q : w.ownsRow 0 e s (.slice (some ⟨g, 0, none⟩) n cap) n xs := h.get i hi
  rcases q.2 with ⟨h0, _⟩ | ⟨g', cap', cur, hv, _, hg, hc, hm, hs, hx⟩
  · cases h0
  · cases hv
    exact ⟨cur, h.setSame i hi hg rfl, hc, hm, hs, hx⟩
theorem HP.celToOwn (h : HP S w0 w H) (i : Nat) {g e s cap k : Nat} {cur : Array Value} (hi : H[i]? = some (.cel g cur e)) (hk : k ≤ cap) (hm : cap ≤ maxLen) (hs : cur.size = cap * s) :
    HP S w0 w (H.set i (.own (.slice (some ⟨g, 0, none⟩) k cap) k (cur.toList.take (k * s)) e s)) :=
  h.setSame i hi ⟨by
    have : k * s ≤ cap * s := Nat.mul_le_mul_right _ hk
    simp; omega, .inr ⟨g, cap, cur, rfl, Nat.zero_le _, h.get i hi, hk, hm, hs, rfl⟩⟩ rfl
theorem run_eqGuard_any (op : BinOp) (t : TypeId) (x y : Operand) (p q : Option Addr) (n c n' c' : Nat) (hm : P.eqGuardType P.depth t = false) : (eqGuard op t x y (.slice p n c) (.slice q n' c')).run P w = .ok () w := by
  cases op <;> simp [eqGuard, run_program, hm]
theorem x_eqlNil {t e u : TypeId} {x y : Operand} {a : Option Addr} {n c n' c' : Nat} {b : Bool} (ho : o.op = .binOp .eql t x y u) (hx : ρ x = .slice a n c) (hy : ρ y = .slice none n' c') (ht : P.underlying t = some (.slice e)) (hm : P.eqGuardType P.depth t = false) (hb : a.isNone = b) :
    (execOp ρ o).run P w = .ok (.value (.bool b)) w := by
  unfold execOp; rw [ho]; simp [hx, hy, run_eqGuard_any _ _ _ _ _ _ _ _ _ _ hm, Lib.run_eql_slice_nil w t e a n c n' c' ht, hb]
/-- a slice from an index on -/
theorem x_sliceL {t e s b off n cap p m k : Nat} {x lo : Operand} {I : Int} (i : Nat) (ho : o.op = .slice t x (some lo) none none) (hx : ρ x = .slice (some ⟨b, off, none⟩) n cap) (hy : ρ lo = .int .i64 I) (hu : P.underlying t = some (.slice e)) (hI : I = (i : Int)) (hle : i ≤ n) (hnc : n ≤ cap) (hs : (P.info? e).map (·.size) = some s) (hp : off + i * s = p) (hm : n - i = m) (hk : cap - i = k) (hlt : i < cap) :
    (execOp ρ o).run P w = .ok (.value (.slice (some ⟨b, p, none⟩) m k)) w := by
  unfold execOp; rw [ho]
  subst hI
  obtain ⟨inf, hi, rfl⟩ := Option.map_eq_some_iff.1 hs
  have hz : (sizeOf e).run P w = .ok inf.size w := by simp [sizeOf, typeInfo, hi]
  have hadd : (⟨b, off, none⟩ : Addr).add (i * inf.size) = ⟨b, p, none⟩ := by unfold Addr.add; split <;> simp_all
  simp [hx, hy, Instr.sliceAt, Instr.slice, run_underlying hu, Instr.sliceBounds, Instr.sliceBound, asIntOf, hle, hz, hadd, hnc, hm, hk]
  try omega
/-- clear, of a part of a block -/
theorem WL.clear {o : Oper} {t e : TypeId} {inf : TypeInfo} {z : Value} {sz : Nat} {x : Operand} {g off m cp : Nat} {c : Array Value} (i : Nat) (hH : HP S w0 w H) (hd : o.dst = none) (hw : wants ops l o = some true)
    (ho : o.op = .call { callee := .builtin .clear, args := #[x], argTypes := #[t] }) (hx : ev l x = some (.slice (some ⟨g, off, none⟩) m cp))
    (ht : P.underlying t = some (.slice e)) (hi' : P.info? e = some inf) (hz : inf.zero = some z) (hzs : z.cells.size = sz) (h1 : ∀ u ∈ z.cells.toList, u.oneCell' = true) (hi : H[i]? = some (.cel g c e)) (hfit : off + m * sz ≤ c.size)
    (h : ∀ (c' : Array Value) w2, c'.size = c.size → c'.toList.take off = c.toList.take off → HP S w0 w2 (H.set i (.cel g c' e)) → WL P ops Q rest n l w2) : WL P ops Q (o :: rest) n l w := by
  intro a ha
  refine wpList_step fun K hK => ?_
  rw [if_pos (wants_spec ha hw)]
  unfold Oper.wp
  have hzv : ∀ w, (zeroValue e).run P w = .ok z w := fun w => by simp [zeroValue, typeInfo, hi', hz]
  cases m with
  | zero =>
    have hr : (execOp a.eval o).run P w = .ok (.value (.tuple #[])) w := by
      unfold execOp; rw [ho]; simp [resolve, invoke, builtin, ha.ev hx, Builtin.clear_, run_underlying ht]
    rw [hr, Oper.upon_value, hd]
    refine hK _ _ (h c w rfl rfl ?_ _ ha)
    exact hH.setSame i hi (hH.get i hi) rfl
  | succ m =>
    have hzl : (Builtin.zeroCells z.cells (m + 1)).toList.length = (m + 1) * sz := by rw [← hzs]; simp [Builtin.zeroCells]
    have hst := run_storeCells_at P g off e (Builtin.zeroCells z.cells (m + 1)).toList 0 c w (hH.get i hi) (by rw [hzl]; simpa using hfit) (by
      intro v hv
      obtain ⟨j, hj, rfl⟩ : ∃ j, j < (m + 1) * z.cells.size ∧ z.cells[j % z.cells.size]! = v := by simpa [Builtin.zeroCells] using hv
      have h0 : 0 < z.cells.size := by
        rcases Nat.eq_zero_or_pos z.cells.size with q | q
        · rw [q] at hj; omega
        · exact q
      rw [getElem!_pos z.cells _ (Nat.mod_lt j h0)]
      exact h1 _ (by simp))
    simp only [Nat.add_zero] at hst
    have hr : (execOp a.eval o).run P w = .ok (.value (.tuple #[])) (w.setRow g (c.toList.take off ++ (Builtin.zeroCells z.cells (m + 1)).toList ++ c.toList.drop (off + (Builtin.zeroCells z.cells (m + 1)).toList.length)).toArray) := by
      unfold execOp; rw [ho]; simp [resolve, invoke, builtin, ha.ev hx, Builtin.clear_, run_underlying ht, hzv, hst]
    obtain ⟨X, hX⟩ : ∃ X : Array Value, X = (c.toList.take off ++ (Builtin.zeroCells z.cells (m + 1)).toList ++ c.toList.drop (off + (Builtin.zeroCells z.cells (m + 1)).toList.length)).toArray := ⟨_, rfl⟩
    rw [← hX] at hr
    rw [hr, Oper.upon_value, hd]
    refine hK _ _ (h X _ ?_ ?_ ?_ _ ha)
    · have hzl2 : (Builtin.zeroCells z.cells (m + 1)).size = (m + 1) * sz := by rw [← Array.length_toList]; exact hzl
      rw [hX]; simp only [List.size_toArray, List.length_append, List.length_take, List.length_drop, Array.length_toList]; omega
    · rw [hX, List.append_assoc, List.take_append_of_le_length (by simp; omega), List.take_take]; simp
    · exact hH.change i hi rfl rfl rfl (by simp) (fun k hk hne => setRow_other w g k _ (fun e => hne (by rw [e]; rfl))) (setRow_heap w g c _ e (0, 0) (hH.get i hi)) (fun b hb => .inl hb)
end
end Fw
end Go.Proofs.Ytmjnakhpekbenaa
namespace Go.Proofs.Ytmjnakhpekbenaa
open Go.RowKit
namespace Fw
section
variable {S : Nat → Prop} {w0 w w' : World} {H A B B' : List Ent}
/-- what a call is handed: entries that hold, apart from each other -/
def OwnB (w : World) (B : List Ent) : Prop := (∀ e, e ∈ B → e.holds w) ∧ B.Pairwise Apart
abbrev Out (B : List Ent) : Nat → Prop := fun b => ∀ e, e ∈ B → e.blk ≠ some b
theorem HP.startB (h : OwnB w B) : HP (Out B) w w B :=
  ⟨rfl, rfl, rfl, Nat.le_refl _, fun _ _ _ => rfl, h.1, fun x hx b hb _ hn => hn x hx hb, h.2⟩
theorem HP.ownB (h : HP S w0 w (A ++ B)) : OwnB w B := ⟨fun e he => h.hold e (List.mem_append_right _ he), (List.pairwise_append.1 h.apart).2.1⟩
/-- a call changes the last entries of the list -/
theorem HP.exch (h : HP S w0 w (A ++ B)) (h2 : HP (Out B) w w' B') : HP S w0 w' (A ++ B') := by
  have hp := List.pairwise_append.1 h.apart
  have old : ∀ b, b < w.heap.size → ∀ e', e' ∈ B' → e'.blk = some b → ∃ e, e ∈ B ∧ e.blk = some b := fun b hb e' he' hb' => by
    refine Classical.byContradiction fun hn => h2.fresh e' he' b hb' hb fun e he q => hn ⟨e, he, q⟩
  refine ⟨h2.os.trans h.os, h2.tape.trans h.tape, h2.output.trans h.output, Nat.le_trans h.size h2.size, ?_, ?_, ?_, ?_⟩
  · intro k hk hS
    refine (h2.keep k (Nat.lt_of_lt_of_le hk h.size) fun e he q => h.fresh e (List.mem_append_right _ he) k q hk hS).trans (h.keep k hk hS)
  · intro e he
    rcases List.mem_append.1 he with he | he
    · refine Ent.keep (h.hold e (List.mem_append_left _ he)) fun b hb => h2.keep b (Ent.lt (h.hold e (List.mem_append_left _ he)) hb) fun x hx q => hp.2.2 e he x hx b hb q
    · exact h2.hold e he
  · intro e he b hb hlt
    rcases List.mem_append.1 he with he | he
    · exact h.fresh e (List.mem_append_left _ he) b hb hlt
    · obtain ⟨x, hx, q⟩ := old b (Nat.lt_of_lt_of_le hlt h.size) e he hb
      exact h.fresh x (List.mem_append_right _ hx) b q hlt
  · refine List.pairwise_append.2 ⟨hp.1, h2.apart, fun x hx y hy b hb1 hb2 => ?_⟩
    by_cases hlt : b < w.heap.size
    · obtain ⟨z, hz, q⟩ := old b hlt y hy hb2
      exact hp.2.2 x hx z hz b hb1 q
    · exact hlt (Ent.lt (h.hold x (List.mem_append_left _ hx)) hb1)
theorem HP.flip (h : HP S w0 w (A ++ B)) : HP S w0 w (B ++ A) := h.perm List.perm_append_comm
theorem HP.exchF {S : Nat → Prop} {w0 w w' : World} {A A' B : List Ent} (h : HP S w0 w (A ++ B)) (h2 : HP (Out A) w w' A') : HP S w0 w' (A' ++ B) := (h.flip.exch h2).flip
theorem HP.exchM {S : Nat → Prop} {w0 w w' : World} {A R R' C : List Ent} (h : HP S w0 w (A ++ (R ++ C))) (h2 : HP (Out R) w w' R') : HP S w0 w' (A ++ (R' ++ C)) := by
  have h3 : HP S w0 w (R ++ (C ++ A)) := by have q := h.flip; rwa [List.append_assoc] at q
  have h4 := h3.exchF h2
  rw [← List.append_assoc] at h4
  exact h4.flip
theorem HP.ownF {S : Nat → Prop} {w0 w : World} {A B : List Ent} (h : HP S w0 w (A ++ B)) : OwnB w A := HP.ownB h.flip
theorem HP.ownM {S : Nat → Prop} {w0 w : World} {A R C : List Ent} (h : HP S w0 w (A ++ (R ++ C))) : OwnB w R := by
  have h3 : HP S w0 w (R ++ (C ++ A)) := by have q := h.flip; rwa [List.append_assoc] at q
  exact h3.ownF
end
end Fw
end Go.Proofs.Ytmjnakhpekbenaa
namespace Go.Proofs.Ytmjnakhpekbenaa
open Go.RowKit
namespace Fw
section
variable {P : Program} {ops : Array Oper} {Q : Exit → Act → World → Prop} {n : Nat} {l l0 : List (Nat × Value)} {w w0 : World}
/-- as freeB; or the operation that writes the slot stands behind all others -/
def freeH (ls : List Oper) (l0 : List (Nat × Value)) : Bool := l0.all fun p => ls.zipIdx.all fun q => match q.1.dst with
  | some d => !Nat.beq d p.1 || (List.range ls.length).all fun i => Nat.beq i q.2 || q.1.after.any fun e => Region.binds .any e && Nat.beq e.on i
  | none => true
theorem look_append2 {l l' : List (Nat × Value)} {t : Nat} {v : Value} (h : look (l ++ l') t = some v) : (t, v) ∈ l ∨ (look l' t = some v ∧ ∀ u, (t, u) ∉ l) := by
  induction l with
  | nil => exact .inr ⟨h, fun u hu => by cases hu⟩
  | cons p r ih =>
    obtain ⟨s, u⟩ := p
    have h' : look ((s, u) :: (r ++ l')) t = some v := h
    by_cases e : s = t
    · subst e; rw [look_cons_eq] at h'; cases h'; exact .inl (by simp)
    · rw [look_cons_ne e] at h'
      rcases ih h' with q | ⟨q, q2⟩
      · exact .inl (by simp [q])
      · refine .inr ⟨q, fun x hx => ?_⟩
        rcases List.mem_cons.1 hx with hx | hx
        · cases hx; exact e rfl
        · exact q2 x hx
theorem WC.confH {γ : Type} {id : Nat} {ls : List Oper} (l0 : List (Nat × Value)) (vs : γ → List Value) (WI : γ → (Nat → Bool) → World → Prop) (g0 : γ) (hm : P.follows .mixedOrders = true)
    (hsub : Sub l0 l) (hb : backB ls = true) (hd : distB ls = true) (hf : freeH ls l0 = true) (hlen : ∀ g, (vs g).length = ls.length) (hn : (ls.all fun o => match o.dst with | some d => Nat.blt d n | none => true) = true)
    (h0 : WI g0 (fun _ => false) w.drew) (hops : AllOk P ls.toArray l0 vs WI 0 ls)
    (hend : ∀ g D w2, (∀ i, Nat.blt i ls.length = true → D i = true) → WI g D w2 → WQ Q .normal n (allEnv ls (vs g) ++ l0) w2) : WC P (.region id ls.toArray true) Q n l w := by
  intro a ha
  refine wp_region_any hm ?_
  have hdst : ∀ (i j : Nat) (o o' : Oper) (d : Nat), ls[i]? = some o → ls[j]? = some o' → o.dst = some d → o'.dst = some d → i = j := fun i j o o' d h1 h2 h3 h4 => by
    rcases Nat.lt_trichotomy i j with q | q | q
    · exact absurd h4 (distB_spec hd i j o o' d q h1 h2 h3)
    · exact q
    · exact absurd h3 (distB_spec hd j i o' o d q h2 h1 h4)
  have hfree : ∀ (j : Nat) (o : Oper) (t : Nat) (v : Value), ls[j]? = some o → o.dst = some t → look l0 t = some v → ∀ i, i < ls.length → i = j ∨ ∃ e ∈ o.after, Region.binds .any e = true ∧ e.on = i := fun j o t v h1 h2 h3 => by
    have q := List.all_eq_true.1 (List.all_eq_true.1 hf (t, v) (look_mem h3)) (o, j) (by rw [List.mem_zipIdx_iff_getElem?]; simpa using h1)
    simp only [h2] at q
    rw [show Nat.beq t t = true from Nat.beq_refl t] at q
    intro i hi
    simp at q
    rcases q i hi with q3 | ⟨k, hk, q4, q5⟩
    · exact .inl q3
    · exact .inr ⟨o.after[k], Array.getElem_mem hk, q4, q5⟩
  have hnn : ∀ (i : Nat) (o : Oper) (d : Nat), ls[i]? = some o → o.dst = some d → d < n := fun i o d h1 h2 => by
    have q := List.all_eq_true.1 hn o (List.mem_of_getElem? h1)
    rw [h2] at q
    exact Nat.le_of_ble_eq_true q
  let I : (Nat → Bool) → Act → World → Prop := fun D a w => ∃ g, a.tmps.size = n ∧ a.defers = [] ∧
    (∀ (j : Nat) (o : Oper) (d : Nat), ls[j]? = some o → D j = true → o.dst = some d → a.tmps[d]? = some (((vs g)[j]?).getD undef)) ∧ (∀ t v, look l0 t = some v → (∀ (j : Nat) (o : Oper), ls[j]? = some o → o.dst = some t → D j = false) → a.tmps[t]? = some v) ∧ Clo ls.toArray D ∧ WI g D w
  refine any_inv (ops := ls.toArray) I ?_ ?_ ?_ _ _ a _ (by simp) (by
    refine Nat.le_trans (List.length_filter_le _ _) ?_
    simp) ?_
  · intro i o ho e he hbe
    have hm' : (o, i) ∈ ls.zipIdx := by
      rw [List.mem_zipIdx_iff_getElem?]; simpa using ho
    have q := List.all_eq_true.1 (List.all_eq_true.1 hb (o, i) hm') e (by simpa using he)
    rw [hbe] at q
    simpa using q
  · rintro D a w i o ⟨g, i1, i2, i3, i4, i6, i5⟩ ho hDi hdep
    have ho' : ls[i]? = some o := by simpa using ho
    have hfr : Fr n (depEnv ls.toArray (vs g) o ++ l0) a := by
      refine ⟨i1, i2, fun t v ht => ?_⟩
      rcases look_append ht with q | q
      · obtain ⟨e, he, heq⟩ := List.mem_filterMap.1 q
        cases hbe : Region.binds .any e with
        | false => rw [hbe] at heq; cases heq
        | true =>
          rw [hbe] at heq
          simp only [] at heq
          cases hoe : ls.toArray[e.on]? with
          | none => rw [hoe] at heq; cases heq
          | some oe =>
            rw [hoe] at heq
            simp only [Option.bind_some] at heq
            cases hde : oe.dst with
            | none => rw [hde] at heq; cases heq
            | some d =>
              rw [hde] at heq
              simp only [Option.map_some, Option.some.injEq, Prod.mk.injEq] at heq
              obtain ⟨rfl, rfl⟩ := heq
              exact i3 e.on oe d (by simpa using hoe) (hdep e (by simpa using he) hbe) hde
      · refine i4 t v q fun j oj hj hdj => ?_
        cases hDj : D j with
        | false => rfl
        | true =>
          have hil : i < ls.length := (List.getElem?_eq_some_iff.1 ho').1
          rcases hfree j oj t v hj hdj q i hil with rfl | ⟨e, he, hbe, heq⟩
          · rw [hDi] at hDj; cases hDj
          · have := i6 j oj (by simpa using hj) hDj e he hbe
            rw [heq, hDi] at this; cases this
    have hclo : Clo ls.toArray (updD D i) := fun j oj hj hDj e he hbe => by
      by_cases q : j = i
      · subst q
        rw [ho] at hj; cases hj
        by_cases q2 : e.on = j
        · rw [q2]; exact updD_same D j
        · rw [updD_ne q2]; exact hdep e he hbe
      · rw [updD_ne q] at hDj
        by_cases q2 : e.on = i
        · rw [q2]; exact updD_same D i
        · rw [updD_ne q2]; exact i6 j oj hj hDj e he hbe
    have hnext : ∀ (g' : γ) (v : Value) (w' : World), (∀ j, D j = true → (vs g')[j]? = (vs g)[j]?) → (∀ d, o.dst = some d → v = ((vs g')[i]?).getD undef) → WI g' (updD D i) w' → I (updD D i) (a.put o.dst v) w' := fun g' v w' hg hv hW => by
      refine ⟨g', ?_, ?_, ?_, ?_, hclo, hW⟩
      · cases o.dst <;> simp [Act.put, i1]
      · cases o.dst <;> simp [Act.put, i2]
      · intro j oj d hj hDj hdj
        by_cases e : j = i
        · subst e
          rw [ho'] at hj; cases hj
          rw [hdj, ← hv d hdj]
          have := hnn _ _ _ ho' hdj
          simp [Act.put, i1, this]
        · rw [updD_ne e] at hDj
          have h1 := i3 j oj d hj hDj hdj
          rw [← hg j hDj] at h1
          cases hdo : o.dst with
          | none => simpa [Act.put] using h1
          | some d' =>
            have hne : d' ≠ d := fun q => e (hdst j i oj o d hj ho' hdj (by rw [hdo, q]))
            simp [Act.put, Array.getElem?_setIfInBounds_ne hne, h1]
      · intro t u hu hno
        have hne : o.dst ≠ some t := fun q => by
          have := hno i o ho' q
          rw [updD_same] at this; cases this
        have hq := i4 t u hu fun j oj hj hdj => by
          have := hno j oj hj hdj
          by_cases e : j = i
          · subst e; rw [updD_same] at this; cases this
          · rwa [updD_ne e] at this
        cases hdo : o.dst with
        | none => simpa [Act.put] using hq
        | some d' =>
          have hne2 : d' ≠ t := fun q => hne (by rw [hdo, q])
          simp [Act.put, Array.getElem?_setIfInBounds_ne hne2, hq]
    have hok := AllOk.get hops ho'
    rw [Nat.zero_add] at hok
    unfold wpOp
    simp only [ho]
    rcases hok g D w hDi hdep i6 i5 with ⟨h1, h2, h3⟩ | ⟨h1, h2, h3⟩
    · rw [if_pos (wants_spec hfr h1)]
      refine .inl ?_
      unfold Oper.wp
      rw [exec_known hfr h2]
      rcases h3 with ⟨g', w', hg, hr, hW⟩ | ⟨w', hr, hdn, hW⟩ | ⟨f, args, hr, hc⟩
      · rw [hr, Oper.upon_value]
        exact hnext g' _ _ hg (fun _ _ => rfl) hW
      · rw [hr, Oper.upon_skip]
        exact hnext g _ _ (fun _ _ => rfl) (fun d hd' => by rw [hdn] at hd'; cases hd') hW
      · rw [hr, Oper.upon_enter]
        refine hc.mono ?_
        rintro e w' ⟨g', hg, rfl, hW⟩
        exact hnext g' _ _ hg (fun _ _ => rfl) hW
    · rw [if_neg (by rw [wants_spec hfr h1]; exact Bool.false_ne_true)]
      exact hnext g _ _ (fun _ _ => rfl) (fun _ _ => h2.symm) h3
  · rintro D a w ⟨g, i1, i2, i3, i4, i6, i5⟩ hall
    refine hend g D w (fun i hi => hall i (by simpa using hi)) i5 a ⟨i1, i2, fun t v ht => ?_⟩
    rcases look_append2 ht with q | ⟨q, q5⟩
    · obtain ⟨⟨o, u⟩, hp, heq⟩ := List.mem_filterMap.1 q
      obtain ⟨j, hj⟩ := List.mem_iff_getElem?.1 hp
      rw [List.getElem?_zip_eq_some] at hj
      cases hdo : o.dst with
      | none => simp [hdo] at heq
      | some d =>
        simp [hdo] at heq
        obtain ⟨rfl, rfl⟩ := heq
        have := i3 j o d hj.1 (hall j (by have := (List.getElem?_eq_some_iff.1 hj.1).1; simpa using this)) hdo
        rw [hj.2] at this
        simpa using this
    · refine i4 t v q fun j o hj hdj => ?_
      exfalso
      have hvj : ∃ u, (vs g)[j]? = some u := ⟨(vs g)[j]'(by rw [hlen]; exact (List.getElem?_eq_some_iff.1 hj).1), List.getElem?_eq_getElem _⟩
      obtain ⟨u, hu⟩ := hvj
      exact q5 u (List.mem_filterMap.2 ⟨(o, u), List.mem_iff_getElem?.2 ⟨j, by rw [List.getElem?_zip_eq_some]; exact ⟨hj, hu⟩⟩, by simp [hdj]⟩)
  · have hno : ∀ j, (Array.replicate ls.toArray.size false).getD j false = true → False := fun j hDj' => by
      by_cases hj : j < ls.length
      · simp [hj] at hDj'
      · simp [hj] at hDj'
    refine ⟨g0, ha.sz, ha.df, fun j o d _ hDj _ => (hno j hDj).elim, fun t v ht _ => ha.kn t v (hsub.look ht), fun j o _ hDj => (hno j hDj).elim, ?_⟩
    · have : (fun j => (Array.replicate ls.toArray.size false).getD j false) = fun _ => false := by
        funext j
        by_cases hj : j < ls.length <;> simp [hj]
      rw [this]
      exact h0
end
end Fw
end Go.Proofs.Ytmjnakhpekbenaa
namespace Go.Proofs.Ytmjnakhpekbenaa
open Go.RowKit Fw
namespace Ca
abbrev T2 := Int × Int
def tL (t : List T2) : List Value := t.flatMap fun p => [vI p.1, vI p.2]
theorem tL_len (t : List T2) : (tL t).length = t.length * 2 := by
  induction t with
  | nil => rfl
  | cons p r ih => simp [tL] at ih ⊢; omega
theorem tL_one (t : List T2) : ∀ v ∈ tL t, v.oneCell' = true := fun v hv => by
  obtain ⟨p, _, hp⟩ := List.mem_flatMap.1 hv
  simp at hp
  rcases hp with rfl | rfl <;> rfl
theorem tL_push (t : List T2) (a b : Int) : tL t ++ [vI a, vI b] = tL (t ++ [(a, b)]) := by simp [tL]
theorem tL_at : ∀ {t : List T2} {i : Nat}, i < t.length → (tL t)[i * 2]? = some (vI (t.getD i (0, 0)).1) ∧ (tL t)[i * 2 + 1]? = some (vI (t.getD i (0, 0)).2)
  | p :: r, 0, _ => by simp [tL]
  | p :: r, i + 1, h => by
    have := tL_at (t := r) (i := i) (by simpa using h)
    rw [show tL (p :: r) = vI p.1 :: vI p.2 :: tL r from rfl]
    rw [show (i + 1) * 2 = i * 2 + 1 + 1 by omega, show i * 2 + 1 + 1 + 1 = (i * 2 + 1) + 1 + 1 by omega]
    simpa using this
/-- a table that came in, or that is read -/
def InT (w : World) (p : Option Addr) (t : List T2) : Prop := 0 < t.length → ∃ g o, p = some ⟨g, o, none⟩ ∧ ∀ i, i < t.length → w.rangeAt g (o + i * 2) [vI (t.getD i (0, 0)).1, vI (t.getD i (0, 0)).2]
theorem InT.below {w w' : World} {p : Option Addr} {t : List T2} (h : InT w p t) (hb : Below w.heap.size w w') : InT w' p t := fun h0 => by
  obtain ⟨g, o, hp, hr⟩ := h h0
  exact ⟨g, o, hp, fun i hi => HP.oldRange (HP.of_below (S := Tr) hb) trivial (hr i hi)⟩
abbrev rowT (pv : Option Addr) (n cp : Nat) (t : List T2) : Ent := .own (.slice pv n cp) n (tL t) 83 2
theorem hadd (b o k : Nat) : (⟨b, o, none⟩ : Addr).add k = ⟨b, o + k, none⟩ := by unfold Addr.add; split <;> simp_all
theorem InT.own {w : World} {pv : Option Addr} {cp : Nat} {t : List T2} (h : Ent.holds w (rowT pv t.length cp t)) : InT w pv t := fun h0 => by
  have h2 : w.ownsRow 0 83 2 (.slice pv t.length cp) t.length (tL t) := h
  have hc := @World.ownsRow.cells _ _ _ _ _ _ _ h2
  rcases h2.2 with ⟨h0', h1⟩ | ⟨g, cap, cur, hv, hb, hg, hnc, hm, hs, hx⟩
  · omega
  · cases hv
    refine ⟨g, 0, rfl, fun i hi j v hv => ?_⟩
    have hc := hc (g := g) rfl
    obtain ⟨q1, q2⟩ := tL_at hi
    simp only [hadd, Nat.zero_add] at hc ⊢
    match j, hv with
    | 0, hv => simp at hv; subst hv; exact hc _ _ q1
    | 1, hv => simp at hv; subst hv; exact hc _ _ q2
    | j + 2, hv => simp at hv
theorem own_row {w : World} {v : Value} {n e s : Nat} {ys : List Value} (h : Ent.holds w (.own v n ys e s)) : ∃ pv cp, v = .slice pv n cp := by
  have h2 : w.ownsRow 0 e s v n ys := h
  rcases h2.2 with ⟨h0, h1⟩ | ⟨g, cap, cur, hv, _⟩
  · exact ⟨none, 0, by rw [h0, h1]⟩
  · exact ⟨_, cap, hv⟩
/-! Geometry. -/
def wn (n a b : Int) : Bool := decide (a ≤ n) && decide (n ≤ b)
theorem wn_iff {n a b : Int} : wn n a b = true ↔ a ≤ n ∧ n ≤ b := by simp [wn]
def vG (s y l m : Int) : Bool := wn s 1 8 && (wn y 1 4 && (wn l 1 8 && wn m 0 100))
theorem vG_iff {s y l m : Int} : vG s y l m = true ↔ (1 ≤ s ∧ s ≤ 8) ∧ (1 ≤ y ∧ y ≤ 4) ∧ (1 ≤ l ∧ l ≤ 8) ∧ (0 ≤ m ∧ m ≤ 100) := by simp [vG, wn_iff]
/-! Tables. -/
def lnT (t : List T2) (i : Nat) : Int := (t.getD i (0, 0)).1
def agT (t : List T2) (i : Nat) : Int := (t.getD i (0, 0)).2
/-- is the entry i of a table right? -/
def okE (Y : Int) (t : List T2) (i : Nat) : Bool := wn (lnT t i) 0 999 && (wn (agT t i) 0 Y && !(decide ((0 : Int) < (i : Int)) && decide (lnT t i ≤ lnT t (i - 1))))
def okT (s y l m : Int) (t : List T2) : Bool := vG s y l m && (List.range t.length).all fun i => okE (y - 1) t i
theorem okT_iff {s y l m : Int} {t : List T2} : okT s y l m t = true ↔ vG s y l m = true ∧ ∀ i, i < t.length → okE (y - 1) t i = true := by simp [okT]
theorem okT_no {s y l m : Int} {t : List T2} {i : Nat} (hi : i < t.length) (h : okE (y - 1) t i = false) : okT s y l m t = false := by
  cases q : okT s y l m t with
  | false => rfl
  | true => have := (okT_iff.1 q).2 i hi; rw [h] at this; cases this
theorem okT_bad {s y l m Y : Int} {t : List T2} {i : Nat} (hY : 1 ≤ y → y ≤ 4 → Y = y - 1) (hi : i < t.length) (h : okE Y t i = false) : okT s y l m t = false := by
  cases q : vG s y l m with
  | false => simp [okT, q]
  | true =>
    obtain ⟨-, hy, -⟩ := vG_iff.1 q
    rw [hY hy.1 hy.2] at h
    exact okT_no hi h
theorem okT_end {s y l m Y : Int} {t : List T2} (hY : 1 ≤ y → y ≤ 4 → Y = y - 1) (h : ∀ i, i < t.length → okE Y t i = true) : okT s y l m t = vG s y l m := by
  cases q : vG s y l m with
  | false => simp [okT, q]
  | true =>
    obtain ⟨-, hy, -⟩ := vG_iff.1 q
    rw [hY hy.1 hy.2] at h
    exact okT_iff.2 ⟨q, h⟩
/-- sorted by lines -/
def sT (t : List T2) : Prop := t.Pairwise fun a b => a.1 < b.1
/-- the age of a line -/
def ageT (t : List T2) (x : Int) : Option Int := (t.find? fun p => p.1 == x).map (·.2)
theorem lnT_get {t : List T2} {i : Nat} (h : i < t.length) : lnT t i = t[i].1 := by simp [lnT, List.getD_eq_getElem?_getD, h]
theorem agT_get {t : List T2} {i : Nat} (h : i < t.length) : agT t i = t[i].2 := by simp [agT, List.getD_eq_getElem?_getD, h]
theorem okT_sorted {s y l m : Int} {t : List T2} (h : okT s y l m t = true) : sT t := by
  have h1 := (okT_iff.1 h).2
  have key : ∀ d i, i + d + 1 < t.length → lnT t i < lnT t (i + d + 1) := by
    intro d
    induction d with
    | zero =>
      intro i hi
      have := h1 (i + 1) hi
      simp only [okE, Bool.and_eq_true, Bool.not_eq_true', Bool.and_eq_false_iff, decide_eq_false_iff_not] at this
      rcases this.2.2 with q | q
      · omega
      · simpa using q
    | succ d ih =>
      intro i hi
      have q1 := ih i (by omega)
      have := h1 (i + (d + 1) + 1) hi
      simp only [okE, Bool.and_eq_true, Bool.not_eq_true', Bool.and_eq_false_iff, decide_eq_false_iff_not] at this
      rcases this.2.2 with q | q
      · omega
      · rw [show i + (d + 1) + 1 - 1 = i + d + 1 by omega] at q; omega
  refine List.pairwise_iff_getElem.2 fun i j hi hj hij => ?_
  have := key (j - i - 1) i (by omega)
  rw [show i + (j - i - 1) + 1 = j by omega, lnT_get hi, lnT_get hj] at this
  exact this
theorem sT_lt {t : List T2} (h : sT t) {i j : Nat} (hij : i < j) (hj : j < t.length) : lnT t i < lnT t j := by
  rw [lnT_get (by omega), lnT_get hj]; exact List.pairwise_iff_getElem.1 h i j (by omega) hj hij
/-- what a search finds -/
theorem age_at {t : List T2} (h : sT t) {k : Nat} (hk : k < t.length) : ageT t (lnT t k) = some (agT t k) := by
  unfold ageT
  have : t.find? (fun p => p.1 == lnT t k) = some t[k] := by
    rw [List.find?_eq_some_iff_getElem]
    refine ⟨by rw [lnT_get hk]; simp, k, hk, rfl, fun j hj => ?_⟩
    have := sT_lt h hj hk
    rw [lnT_get (by omega)] at this
    simp; omega
  rw [this, agT_get hk]; rfl
theorem age_none {t : List T2} {x : Int} (h : ∀ i, i < t.length → lnT t i ≠ x) : ageT t x = none := by
  unfold ageT
  rw [List.find?_eq_none.2 fun p hp => ?_]
  · rfl
  · obtain ⟨i, hi, rfl⟩ := List.mem_iff_getElem.1 hp
    have := h i hi
    rw [lnT_get hi] at this
    simpa using this
theorem age_no {t : List T2} (h : sT t) {x : Int} {k : Nat} (h1 : 0 < k → lnT t (k - 1) < x) (h2 : k < t.length → x < lnT t k) (hk : k ≤ t.length) : ageT t x = none := by
  refine age_none fun i hi e => ?_
  by_cases q : i < k
  · have q1 := h1 (by omega)
    by_cases q2 : i = k - 1
    · subst q2; omega
    · have := sT_lt h (show i < k - 1 by omega) (by omega); omega
  · have q1 := h2 (by omega)
    by_cases q2 : i = k
    · subst q2; omega
    · have := sT_lt h (show k < i by omega) hi; omega
end Ca
end Go.Proofs.Ytmjnakhpekbenaa
namespace Go.Proofs.Ytmjnakhpekbenaa
open Go.RowKit Fw
namespace Ca
theorem x_convI {P : Program} {ρ : Operand → Value} {o : Oper} {w : World} {s t : TypeId} {x : Operand} {k k' : IntKind} {X Z : Int} (ho : o.op = .convert s t x) (hx : ρ x = .int k X) (hs : (P.underlying s).isSome = true) (ht : P.underlying t = some (.int (P.intKind t))) (hk : P.intKind t = k') (hz : k'.wrap X = Z) :
    (execOp ρ o).run P w = .ok (.value (.int k' Z)) w := by
  subst hk
  unfold execOp; rw [ho]; simp [hx, run_convert_int w s t k X hs ht, hz]
theorem x_shr1 {P : Program} {ρ : Operand → Value} {o : Oper} {w : World} {t u : TypeId} {x y : Operand} {k yk : IntKind} {X : Int} (ho : o.op = .binOp .shr t x y u) (hx : ρ x = .int k X) (hy : ρ y = .int yk 1) (hk : 1 ≤ k.bits) :
    (execOp ρ o).run P w = .ok (.value (.int k (X / 2))) w := by
  exact x_bin ho hx hy g_int (by simp [binOp, shift_shr_any k yk X 1 (by omega), show min 1 k.bits = 1 by omega])
theorem x_subW {P : Program} {w : World} {ρ : Operand → Value} {o : Oper} {t u : TypeId} {x y : Operand} {X Y Z : Int} (ho : o.op = .binOp .sub t x y u) (hx : ρ x = .int .i64 X) (hy : ρ y = .int .i64 Y) (hz : IntKind.i64.wrap (X - Y) = Z) :
    (execOp ρ o).run P w = .ok (.value (.int .i64 Z)) w := x_bin ho hx hy g_int (by simp [binOp, Op.intArith, hz])
theorem sz3 : (Try.prog.info? 3).map (·.size) = some 1 := by kernel_rfl
theorem sz23 : (Try.prog.info? 23).map (·.size) = some 4 := by kernel_rfl
theorem sz83 : (Try.prog.info? 83).map (·.size) = some 2 := by kernel_rfl
set_option maxRecDepth 20000 in
set_option maxHeartbeats 4000000 in
theorem within_any (n a b : Int) (w : World) :
    Calls Try.prog 44 #[vI n, vI a, vI b] w fun e w' => e = .returned (.bool (wn n a b)) ∧ w = w' := by
  refine calls_of Try.func44 rfl (m := 15) rfl [(0, vI n), (1, vI a), (2, vI b)] (Fr_enter [vI n, vI a, vI b] 15 (Nat.le_of_ble_eq_true rfl)) ?_
  have hH1 : HP Tr w w [] := HP.refl w
  refine WC.seq fun K2 hK2 => WC.region ?_
  refine WL.z (v := .bool false) 6 ?_
  refine WL.nil (WQ.then (hK2 _ _ _ (WC.seq fun K3 hK3 => WC.region ?_)))
  refine WL.z (v := vI n) 7 ?_
  refine WL.z (v := vI a) 8 ?_
  by_cases h1 : a ≤ n
  ·
    refine WL.y (v := .bool true) 9 (x_geq rfl rfl rfl (dT (h1))) ?_
    refine WL.z (v := .bool true) 10 ?_
    refine WL.z (v := vI n) 11 ?_
    refine WL.z (v := vI b) 12 ?_
    by_cases h2 : n ≤ b
    ·
      refine WL.y (v := .bool true) 13 (x_leq rfl rfl rfl (dT (h2))) ?_
      refine WL.z (v := .bool true) 14 ?_
      refine WL.z (v := .bool true) 6 ?_
      refine WL.nil (WQ.then (hK3 _ _ _ ?_))
      refine WC.sub (l' := [(0, vI n), (1, vI a), (2, vI b), (6, .bool true)]) ⟨rfl, rfl, rfl, rfl, trivial⟩ ?_
      refine WC.ret ?_
      refine WQ.ret1 6 rfl rfl ?_
      exact ⟨by rw [show wn n a b = true by unfold wn; simp [h1, h2]], rfl⟩
    ·
      refine WL.y (v := .bool false) 13 (x_leq rfl rfl rfl (dF (h2))) ?_
      refine WL.z (v := .bool false) 14 ?_
      refine WL.z (v := .bool false) 6 ?_
      refine WL.nil (WQ.then (hK3 _ _ _ ?_))
      refine WC.sub (l' := [(0, vI n), (1, vI a), (2, vI b), (6, .bool false)]) ⟨rfl, rfl, rfl, rfl, trivial⟩ ?_
      refine WC.ret ?_
      refine WQ.ret1 6 rfl rfl ?_
      exact ⟨by rw [show wn n a b = false by unfold wn; simp [h1, h2]], rfl⟩
  ·
    refine WL.y (v := .bool false) 9 (x_geq rfl rfl rfl (dF (h1))) ?_
    refine WL.z (v := .bool false) 10 ?_
    refine WL.p 11 ?_
    refine WL.p 12 ?_
    refine WL.p 13 ?_
    refine WL.z (v := .bool false) 14 ?_
    refine WL.z (v := .bool false) 6 ?_
    refine WL.nil (WQ.then (hK3 _ _ _ ?_))
    refine WC.sub (l' := [(0, vI n), (1, vI a), (2, vI b), (6, .bool false)]) ⟨rfl, rfl, rfl, rfl, trivial⟩ ?_
    refine WC.ret ?_
    refine WQ.ret1 6 rfl rfl ?_
    exact ⟨by rw [show wn n a b = false by unfold wn; simp [h1]], rfl⟩
theorem within_at {n a b : Int} {r : Bool} (h : wn n a b = r) (w : World) : Calls Try.prog 44 #[vI n, vI a, vI b] w fun e w' => e = .returned (.bool r) ∧ w = w' := h ▸ within_any n a b w
set_option maxRecDepth 20000 in
set_option maxHeartbeats 4000000 in
theorem Valid_any (s y l m : Int) (w : World) :
    Calls Try.prog 22 #[.agg #[vI s, vI y, vI l, vI m]] w fun e w' => e = .returned (.bool (vG s y l m)) ∧ Below w.heap.size w w' := by
  refine calls_of Try.func22 rfl (m := 21) rfl [(0, .agg #[vI s, vI y, vI l, vI m])] (Fr_enter [.agg #[vI s, vI y, vI l, vI m]] 21 (Nat.le_of_ble_eq_true rfl)) ?_
  have hH1 : HP Tr w w [] := HP.refl w
  refine WC.seq fun K2 hK2 => WC.region ?_
  refine WL.alloc (c := #[vI s, vI y, vI l, vI m]) (T := 23) hH1 1 rfl (by decide) rfl rfl (fun b1 => vP b1 0) (by kernel_rfl) (fun b1 w3 hw3 => ?_)
  have hH4 : HP Tr w w3 [.cel b1 #[vI s, vI y, vI l, vI m] 23] := hw3.2
  have nb1 := hw3.1
  clear hw3
  refine WL.z (v := .bool false) 2 ?_
  refine WL.nil (WQ.then (hK2 _ _ _ (WC.seq fun K5 hK5 => WC.region ?_)))
  refine WL.z (v := vP b1 0) 3 ?_
  refine WL.y (v := vI s) 4 (x_load rfl rfl Try.underlying3 rfl (HP.cell hH4 0 rfl rfl)) ?_
  rcases Bool.eq_false_or_eq_true (wn s 1 8) with h5 | h5
  ·
    refine WL.call (f := 44) (args := #[vI s, vI 1, vI 8]) 5 rfl (Nat.le_of_ble_eq_true rfl) rfl rfl (by kernel_rfl) ?_
    refine (within_at h5 _).mono ?_
    rintro e w6 ⟨rfl, rfl⟩
    refine ⟨_, rfl, ?_⟩
    refine WL.z (v := .bool true) 6 ?_
    refine WL.z (v := vP b1 1) 7 ?_
    refine WL.y (v := vI y) 8 (x_load rfl rfl Try.underlying3 rfl (HP.cell hH4 0 rfl rfl)) ?_
    rcases Bool.eq_false_or_eq_true (wn y 1 4) with h9 | h9
    ·
      refine WL.call (f := 44) (args := #[vI y, vI 1, vI 4]) 9 rfl (Nat.le_of_ble_eq_true rfl) rfl rfl (by kernel_rfl) ?_
      refine (within_at h9 _).mono ?_
      rintro e w7 ⟨rfl, rfl⟩
      refine ⟨_, rfl, ?_⟩
      refine WL.z (v := .bool true) 10 ?_
      refine WL.z (v := .bool true) 11 ?_
      refine WL.z (v := vP b1 2) 12 ?_
      refine WL.y (v := vI l) 13 (x_load rfl rfl Try.underlying3 rfl (HP.cell hH4 0 rfl rfl)) ?_
      rcases Bool.eq_false_or_eq_true (wn l 1 8) with h14 | h14
      ·
        refine WL.call (f := 44) (args := #[vI l, vI 1, vI 8]) 14 rfl (Nat.le_of_ble_eq_true rfl) rfl rfl (by kernel_rfl) ?_
        refine (within_at h14 _).mono ?_
        rintro e w8 ⟨rfl, rfl⟩
        refine ⟨_, rfl, ?_⟩
        refine WL.z (v := .bool true) 15 ?_
        refine WL.z (v := .bool true) 16 ?_
        refine WL.z (v := vP b1 3) 17 ?_
        refine WL.y (v := vI m) 18 (x_load rfl rfl Try.underlying3 rfl (HP.cell hH4 0 rfl rfl)) ?_
        rcases Bool.eq_false_or_eq_true (wn m 0 100) with h19 | h19
        ·
          refine WL.call (f := 44) (args := #[vI m, vI 0, vI 100]) 19 rfl (Nat.le_of_ble_eq_true rfl) rfl rfl (by kernel_rfl) ?_
          refine (within_at h19 _).mono ?_
          rintro e w9 ⟨rfl, rfl⟩
          refine ⟨_, rfl, ?_⟩
          refine WL.z (v := .bool true) 20 ?_
          refine WL.z (v := .bool true) 2 ?_
          refine WL.nil (WQ.then (hK5 _ _ _ ?_))
          refine WC.sub (l' := [(0, .agg #[vI s, vI y, vI l, vI m]), (1, vP b1 0), (2, .bool true)]) ⟨rfl, rfl, rfl, trivial⟩ ?_
          refine WC.ret ?_
          refine WQ.ret1 2 rfl rfl ?_
          exact ⟨by unfold vG; rw [h5, h9, h14, h19]; rfl, HP.below hH4⟩
        ·
          refine WL.call (f := 44) (args := #[vI m, vI 0, vI 100]) 19 rfl (Nat.le_of_ble_eq_true rfl) rfl rfl (by kernel_rfl) ?_
          refine (within_at h19 _).mono ?_
          rintro e w10 ⟨rfl, rfl⟩
          refine ⟨_, rfl, ?_⟩
          refine WL.z (v := .bool false) 20 ?_
          refine WL.z (v := .bool false) 2 ?_
          refine WL.nil (WQ.then (hK5 _ _ _ ?_))
          refine WC.sub (l' := [(0, .agg #[vI s, vI y, vI l, vI m]), (1, vP b1 0), (2, .bool false)]) ⟨rfl, rfl, rfl, trivial⟩ ?_
          refine WC.ret ?_
          refine WQ.ret1 2 rfl rfl ?_
          exact ⟨by unfold vG; rw [h5, h9, h14, h19]; rfl, HP.below hH4⟩
      ·
        refine WL.call (f := 44) (args := #[vI l, vI 1, vI 8]) 14 rfl (Nat.le_of_ble_eq_true rfl) rfl rfl (by kernel_rfl) ?_
        refine (within_at h14 _).mono ?_
        rintro e w11 ⟨rfl, rfl⟩
        refine ⟨_, rfl, ?_⟩
        refine WL.z (v := .bool false) 15 ?_
        refine WL.z (v := .bool false) 16 ?_
        refine WL.p 17 ?_
        refine WL.p 18 ?_
        refine WL.p 19 ?_
        refine WL.z (v := .bool false) 20 ?_
        refine WL.z (v := .bool false) 2 ?_
        refine WL.nil (WQ.then (hK5 _ _ _ ?_))
        refine WC.sub (l' := [(0, .agg #[vI s, vI y, vI l, vI m]), (1, vP b1 0), (2, .bool false)]) ⟨rfl, rfl, rfl, trivial⟩ ?_
        refine WC.ret ?_
        refine WQ.ret1 2 rfl rfl ?_
        exact ⟨by unfold vG; rw [h5, h9, h14]; rfl, HP.below hH4⟩
    ·
      refine WL.call (f := 44) (args := #[vI y, vI 1, vI 4]) 9 rfl (Nat.le_of_ble_eq_true rfl) rfl rfl (by kernel_rfl) ?_
      refine (within_at h9 _).mono ?_
      rintro e w12 ⟨rfl, rfl⟩
      refine ⟨_, rfl, ?_⟩
      refine WL.z (v := .bool false) 10 ?_
      refine WL.z (v := .bool false) 11 ?_
      refine WL.p 12 ?_
      refine WL.p 13 ?_
      refine WL.p 14 ?_
      refine WL.z (v := .bool false) 15 ?_
      refine WL.z (v := .bool false) 16 ?_
      refine WL.p 17 ?_
      refine WL.p 18 ?_
      refine WL.p 19 ?_
      refine WL.z (v := .bool false) 20 ?_
      refine WL.z (v := .bool false) 2 ?_
      refine WL.nil (WQ.then (hK5 _ _ _ ?_))
      refine WC.sub (l' := [(0, .agg #[vI s, vI y, vI l, vI m]), (1, vP b1 0), (2, .bool false)]) ⟨rfl, rfl, rfl, trivial⟩ ?_
      refine WC.ret ?_
      refine WQ.ret1 2 rfl rfl ?_
      exact ⟨by unfold vG; rw [h5, h9]; rfl, HP.below hH4⟩
  ·
    refine WL.call (f := 44) (args := #[vI s, vI 1, vI 8]) 5 rfl (Nat.le_of_ble_eq_true rfl) rfl rfl (by kernel_rfl) ?_
    refine (within_at h5 _).mono ?_
    rintro e w13 ⟨rfl, rfl⟩
    refine ⟨_, rfl, ?_⟩
    refine WL.z (v := .bool false) 6 ?_
    refine WL.p 7 ?_
    refine WL.p 8 ?_
    refine WL.p 9 ?_
    refine WL.z (v := .bool false) 10 ?_
    refine WL.z (v := .bool false) 11 ?_
    refine WL.p 12 ?_
    refine WL.p 13 ?_
    refine WL.p 14 ?_
    refine WL.z (v := .bool false) 15 ?_
    refine WL.z (v := .bool false) 16 ?_
    refine WL.p 17 ?_
    refine WL.p 18 ?_
    refine WL.p 19 ?_
    refine WL.z (v := .bool false) 20 ?_
    refine WL.z (v := .bool false) 2 ?_
    refine WL.nil (WQ.then (hK5 _ _ _ ?_))
    refine WC.sub (l' := [(0, .agg #[vI s, vI y, vI l, vI m]), (1, vP b1 0), (2, .bool false)]) ⟨rfl, rfl, rfl, trivial⟩ ?_
    refine WC.ret ?_
    refine WQ.ret1 2 rfl rfl ?_
    exact ⟨by unfold vG; rw [h5]; rfl, HP.below hH4⟩
set_option maxRecDepth 20000 in
set_option maxHeartbeats 4000000 in
theorem rValid_any (s y l m : Int) (w : World) :
    Calls Try.prog 23 #[.agg #[vI s, vI y, vI l, vI m]] w fun e w' => e = .returned (.bool (vG s y l m)) ∧ Below w.heap.size w w' := by
  refine calls_of Try.func23 rfl (m := 41) rfl [(0, .agg #[vI s, vI y, vI l, vI m])] (Fr_enter [.agg #[vI s, vI y, vI l, vI m]] 41 (Nat.le_of_ble_eq_true rfl)) ?_
  have hH1 : HP Tr w w [] := HP.refl w
  refine WC.seq fun K2 hK2 => WC.region ?_
  refine WL.alloc (c := #[vI s, vI y, vI l, vI m]) (T := 23) hH1 1 rfl (by decide) rfl rfl (fun b1 => vP b1 0) (by kernel_rfl) (fun b1 w3 hw3 => ?_)
  have hH4 : HP Tr w w3 [.cel b1 #[vI s, vI y, vI l, vI m] 23] := hw3.2
  have nb1 := hw3.1
  clear hw3
  refine WL.z (v := .bool false) 2 ?_
  refine WL.nil (WQ.then (hK2 _ _ _ (WC.seq fun K5 hK5 => WC.region ?_)))
  refine WL.z (v := vP b1 0) 3 ?_
  refine WL.y (v := vI s) 4 (x_load rfl rfl Try.underlying3 rfl (HP.cell hH4 0 rfl rfl)) ?_
  by_cases h5 : (1 : Int) ≤ s
  ·
    refine WL.y (v := .bool true) 5 (x_geq rfl rfl rfl (dT (h5))) ?_
    refine WL.z (v := .bool true) 6 ?_
    refine WL.z (v := vP b1 0) 7 ?_
    refine WL.y (v := vI s) 8 (x_load rfl rfl Try.underlying3 rfl (HP.cell hH4 0 rfl rfl)) ?_
    by_cases h9 : s ≤ 8
    ·
      refine WL.y (v := .bool true) 9 (x_leq rfl rfl rfl (dT (h9))) ?_
      refine WL.z (v := .bool true) 10 ?_
      refine WL.z (v := .bool true) 11 ?_
      refine WL.z (v := vP b1 1) 12 ?_
      refine WL.y (v := vI y) 13 (x_load rfl rfl Try.underlying3 rfl (HP.cell hH4 0 rfl rfl)) ?_
      by_cases h14 : (1 : Int) ≤ y
      ·
        refine WL.y (v := .bool true) 14 (x_geq rfl rfl rfl (dT (h14))) ?_
        refine WL.z (v := .bool true) 15 ?_
        refine WL.z (v := .bool true) 16 ?_
        refine WL.z (v := vP b1 1) 17 ?_
        refine WL.y (v := vI y) 18 (x_load rfl rfl Try.underlying3 rfl (HP.cell hH4 0 rfl rfl)) ?_
        by_cases h19 : y ≤ 4
        ·
          refine WL.y (v := .bool true) 19 (x_leq rfl rfl rfl (dT (h19))) ?_
          refine WL.z (v := .bool true) 20 ?_
          refine WL.z (v := .bool true) 21 ?_
          refine WL.z (v := vP b1 2) 22 ?_
          refine WL.y (v := vI l) 23 (x_load rfl rfl Try.underlying3 rfl (HP.cell hH4 0 rfl rfl)) ?_
          by_cases h24 : (1 : Int) ≤ l
          ·
            refine WL.y (v := .bool true) 24 (x_geq rfl rfl rfl (dT (h24))) ?_
            refine WL.z (v := .bool true) 25 ?_
            refine WL.z (v := .bool true) 26 ?_
            refine WL.z (v := vP b1 2) 27 ?_
            refine WL.y (v := vI l) 28 (x_load rfl rfl Try.underlying3 rfl (HP.cell hH4 0 rfl rfl)) ?_
            by_cases h29 : l ≤ 8
            ·
              refine WL.y (v := .bool true) 29 (x_leq rfl rfl rfl (dT (h29))) ?_
              refine WL.z (v := .bool true) 30 ?_
              refine WL.z (v := .bool true) 31 ?_
              refine WL.z (v := vP b1 3) 32 ?_
              refine WL.y (v := vI m) 33 (x_load rfl rfl Try.underlying3 rfl (HP.cell hH4 0 rfl rfl)) ?_
              by_cases h34 : (0 : Int) ≤ m
              ·
                refine WL.y (v := .bool true) 34 (x_geq rfl rfl rfl (dT (h34))) ?_
                refine WL.z (v := .bool true) 35 ?_
                refine WL.z (v := .bool true) 36 ?_
                refine WL.z (v := vP b1 3) 37 ?_
                refine WL.y (v := vI m) 38 (x_load rfl rfl Try.underlying3 rfl (HP.cell hH4 0 rfl rfl)) ?_
                by_cases h39 : m ≤ 100
                ·
                  refine WL.y (v := .bool true) 39 (x_leq rfl rfl rfl (dT (h39))) ?_
                  refine WL.z (v := .bool true) 40 ?_
                  refine WL.z (v := .bool true) 2 ?_
                  refine WL.nil (WQ.then (hK5 _ _ _ ?_))
                  refine WC.sub (l' := [(0, .agg #[vI s, vI y, vI l, vI m]), (1, vP b1 0), (2, .bool true)]) ⟨rfl, rfl, rfl, trivial⟩ ?_
                  refine WC.ret ?_
                  refine WQ.ret1 2 rfl rfl ?_
                  exact ⟨by rw [show vG s y l m = true by unfold vG wn; simp [h5, h9, h14, h19, h24, h29, h34, h39]], HP.below hH4⟩
                ·
                  refine WL.y (v := .bool false) 39 (x_leq rfl rfl rfl (dF (h39))) ?_
                  refine WL.z (v := .bool false) 40 ?_
                  refine WL.z (v := .bool false) 2 ?_
                  refine WL.nil (WQ.then (hK5 _ _ _ ?_))
                  refine WC.sub (l' := [(0, .agg #[vI s, vI y, vI l, vI m]), (1, vP b1 0), (2, .bool false)]) ⟨rfl, rfl, rfl, trivial⟩ ?_
                  refine WC.ret ?_
                  refine WQ.ret1 2 rfl rfl ?_
                  exact ⟨by rw [show vG s y l m = false by unfold vG wn; simp [h5, h9, h14, h19, h24, h29, h34, h39]], HP.below hH4⟩
              ·
                refine WL.y (v := .bool false) 34 (x_geq rfl rfl rfl (dF (h34))) ?_
                refine WL.z (v := .bool false) 35 ?_
                refine WL.z (v := .bool false) 36 ?_
                refine WL.p 37 ?_
                refine WL.p 38 ?_
                refine WL.p 39 ?_
                refine WL.z (v := .bool false) 40 ?_
                refine WL.z (v := .bool false) 2 ?_
                refine WL.nil (WQ.then (hK5 _ _ _ ?_))
                refine WC.sub (l' := [(0, .agg #[vI s, vI y, vI l, vI m]), (1, vP b1 0), (2, .bool false)]) ⟨rfl, rfl, rfl, trivial⟩ ?_
                refine WC.ret ?_
                refine WQ.ret1 2 rfl rfl ?_
                exact ⟨by rw [show vG s y l m = false by unfold vG wn; simp [h5, h9, h14, h19, h24, h29, h34]], HP.below hH4⟩
            ·
              refine WL.y (v := .bool false) 29 (x_leq rfl rfl rfl (dF (h29))) ?_
              refine WL.z (v := .bool false) 30 ?_
              refine WL.z (v := .bool false) 31 ?_
              refine WL.p 32 ?_
              refine WL.p 33 ?_
              refine WL.p 34 ?_
              refine WL.z (v := .bool false) 35 ?_
              refine WL.z (v := .bool false) 36 ?_
              refine WL.p 37 ?_
              refine WL.p 38 ?_
              refine WL.p 39 ?_
              refine WL.z (v := .bool false) 40 ?_
              refine WL.z (v := .bool false) 2 ?_
              refine WL.nil (WQ.then (hK5 _ _ _ ?_))
              refine WC.sub (l' := [(0, .agg #[vI s, vI y, vI l, vI m]), (1, vP b1 0), (2, .bool false)]) ⟨rfl, rfl, rfl, trivial⟩ ?_
              refine WC.ret ?_
              refine WQ.ret1 2 rfl rfl ?_
              exact ⟨by rw [show vG s y l m = false by unfold vG wn; simp [h5, h9, h14, h19, h24, h29]], HP.below hH4⟩
          ·
            refine WL.y (v := .bool false) 24 (x_geq rfl rfl rfl (dF (h24))) ?_
            refine WL.z (v := .bool false) 25 ?_
            refine WL.z (v := .bool false) 26 ?_
            refine WL.p 27 ?_
            refine WL.p 28 ?_
            refine WL.p 29 ?_
            refine WL.z (v := .bool false) 30 ?_
            refine WL.z (v := .bool false) 31 ?_
            refine WL.p 32 ?_
            refine WL.p 33 ?_
            refine WL.p 34 ?_
            refine WL.z (v := .bool false) 35 ?_
            refine WL.z (v := .bool false) 36 ?_
            refine WL.p 37 ?_
            refine WL.p 38 ?_
            refine WL.p 39 ?_
            refine WL.z (v := .bool false) 40 ?_
            refine WL.z (v := .bool false) 2 ?_
            refine WL.nil (WQ.then (hK5 _ _ _ ?_))
            refine WC.sub (l' := [(0, .agg #[vI s, vI y, vI l, vI m]), (1, vP b1 0), (2, .bool false)]) ⟨rfl, rfl, rfl, trivial⟩ ?_
            refine WC.ret ?_
            refine WQ.ret1 2 rfl rfl ?_
            exact ⟨by rw [show vG s y l m = false by unfold vG wn; simp [h5, h9, h14, h19, h24]], HP.below hH4⟩
        ·
          refine WL.y (v := .bool false) 19 (x_leq rfl rfl rfl (dF (h19))) ?_
          refine WL.z (v := .bool false) 20 ?_
          refine WL.z (v := .bool false) 21 ?_
          refine WL.p 22 ?_
          refine WL.p 23 ?_
          refine WL.p 24 ?_
          refine WL.z (v := .bool false) 25 ?_
          refine WL.z (v := .bool false) 26 ?_
          refine WL.p 27 ?_
          refine WL.p 28 ?_
          refine WL.p 29 ?_
          refine WL.z (v := .bool false) 30 ?_
          refine WL.z (v := .bool false) 31 ?_
          refine WL.p 32 ?_
          refine WL.p 33 ?_
          refine WL.p 34 ?_
          refine WL.z (v := .bool false) 35 ?_
          refine WL.z (v := .bool false) 36 ?_
          refine WL.p 37 ?_
          refine WL.p 38 ?_
          refine WL.p 39 ?_
          refine WL.z (v := .bool false) 40 ?_
          refine WL.z (v := .bool false) 2 ?_
          refine WL.nil (WQ.then (hK5 _ _ _ ?_))
          refine WC.sub (l' := [(0, .agg #[vI s, vI y, vI l, vI m]), (1, vP b1 0), (2, .bool false)]) ⟨rfl, rfl, rfl, trivial⟩ ?_
          refine WC.ret ?_
          refine WQ.ret1 2 rfl rfl ?_
          exact ⟨by rw [show vG s y l m = false by unfold vG wn; simp [h5, h9, h14, h19]], HP.below hH4⟩
      ·
        refine WL.y (v := .bool false) 14 (x_geq rfl rfl rfl (dF (h14))) ?_
        refine WL.z (v := .bool false) 15 ?_
        refine WL.z (v := .bool false) 16 ?_
        refine WL.p 17 ?_
        refine WL.p 18 ?_
        refine WL.p 19 ?_
        refine WL.z (v := .bool false) 20 ?_
        refine WL.z (v := .bool false) 21 ?_
        refine WL.p 22 ?_
        refine WL.p 23 ?_
        refine WL.p 24 ?_
        refine WL.z (v := .bool false) 25 ?_
        refine WL.z (v := .bool false) 26 ?_
        refine WL.p 27 ?_
        refine WL.p 28 ?_
        refine WL.p 29 ?_
        refine WL.z (v := .bool false) 30 ?_
        refine WL.z (v := .bool false) 31 ?_
        refine WL.p 32 ?_
        refine WL.p 33 ?_
        refine WL.p 34 ?_
        refine WL.z (v := .bool false) 35 ?_
        refine WL.z (v := .bool false) 36 ?_
        refine WL.p 37 ?_
        refine WL.p 38 ?_
        refine WL.p 39 ?_
        refine WL.z (v := .bool false) 40 ?_
        refine WL.z (v := .bool false) 2 ?_
        refine WL.nil (WQ.then (hK5 _ _ _ ?_))
        refine WC.sub (l' := [(0, .agg #[vI s, vI y, vI l, vI m]), (1, vP b1 0), (2, .bool false)]) ⟨rfl, rfl, rfl, trivial⟩ ?_
        refine WC.ret ?_
        refine WQ.ret1 2 rfl rfl ?_
        exact ⟨by rw [show vG s y l m = false by unfold vG wn; simp [h5, h9, h14]], HP.below hH4⟩
    ·
      refine WL.y (v := .bool false) 9 (x_leq rfl rfl rfl (dF (h9))) ?_
      refine WL.z (v := .bool false) 10 ?_
      refine WL.z (v := .bool false) 11 ?_
      refine WL.p 12 ?_
      refine WL.p 13 ?_
      refine WL.p 14 ?_
      refine WL.z (v := .bool false) 15 ?_
      refine WL.z (v := .bool false) 16 ?_
      refine WL.p 17 ?_
      refine WL.p 18 ?_
      refine WL.p 19 ?_
      refine WL.z (v := .bool false) 20 ?_
      refine WL.z (v := .bool false) 21 ?_
      refine WL.p 22 ?_
      refine WL.p 23 ?_
      refine WL.p 24 ?_
      refine WL.z (v := .bool false) 25 ?_
      refine WL.z (v := .bool false) 26 ?_
      refine WL.p 27 ?_
      refine WL.p 28 ?_
      refine WL.p 29 ?_
      refine WL.z (v := .bool false) 30 ?_
      refine WL.z (v := .bool false) 31 ?_
      refine WL.p 32 ?_
      refine WL.p 33 ?_
      refine WL.p 34 ?_
      refine WL.z (v := .bool false) 35 ?_
      refine WL.z (v := .bool false) 36 ?_
      refine WL.p 37 ?_
      refine WL.p 38 ?_
      refine WL.p 39 ?_
      refine WL.z (v := .bool false) 40 ?_
      refine WL.z (v := .bool false) 2 ?_
      refine WL.nil (WQ.then (hK5 _ _ _ ?_))
      refine WC.sub (l' := [(0, .agg #[vI s, vI y, vI l, vI m]), (1, vP b1 0), (2, .bool false)]) ⟨rfl, rfl, rfl, trivial⟩ ?_
      refine WC.ret ?_
      refine WQ.ret1 2 rfl rfl ?_
      exact ⟨by rw [show vG s y l m = false by unfold vG wn; simp [h5, h9]], HP.below hH4⟩
  ·
    refine WL.y (v := .bool false) 5 (x_geq rfl rfl rfl (dF (h5))) ?_
    refine WL.z (v := .bool false) 6 ?_
    refine WL.p 7 ?_
    refine WL.p 8 ?_
    refine WL.p 9 ?_
    refine WL.z (v := .bool false) 10 ?_
    refine WL.z (v := .bool false) 11 ?_
    refine WL.p 12 ?_
    refine WL.p 13 ?_
    refine WL.p 14 ?_
    refine WL.z (v := .bool false) 15 ?_
    refine WL.z (v := .bool false) 16 ?_
    refine WL.p 17 ?_
    refine WL.p 18 ?_
    refine WL.p 19 ?_
    refine WL.z (v := .bool false) 20 ?_
    refine WL.z (v := .bool false) 21 ?_
    refine WL.p 22 ?_
    refine WL.p 23 ?_
    refine WL.p 24 ?_
    refine WL.z (v := .bool false) 25 ?_
    refine WL.z (v := .bool false) 26 ?_
    refine WL.p 27 ?_
    refine WL.p 28 ?_
    refine WL.p 29 ?_
    refine WL.z (v := .bool false) 30 ?_
    refine WL.z (v := .bool false) 31 ?_
    refine WL.p 32 ?_
    refine WL.p 33 ?_
    refine WL.p 34 ?_
    refine WL.z (v := .bool false) 35 ?_
    refine WL.z (v := .bool false) 36 ?_
    refine WL.p 37 ?_
    refine WL.p 38 ?_
    refine WL.p 39 ?_
    refine WL.z (v := .bool false) 40 ?_
    refine WL.z (v := .bool false) 2 ?_
    refine WL.nil (WQ.then (hK5 _ _ _ ?_))
    refine WC.sub (l' := [(0, .agg #[vI s, vI y, vI l, vI m]), (1, vP b1 0), (2, .bool false)]) ⟨rfl, rfl, rfl, trivial⟩ ?_
    refine WC.ret ?_
    refine WQ.ret1 2 rfl rfl ?_
    exact ⟨by rw [show vG s y l m = false by unfold vG wn; simp [h5]], HP.below hH4⟩
set_option maxRecDepth 20000 in
set_option maxHeartbeats 4000000 in
theorem validTable_any (s y l m : Int) (p : Option Addr) (t : List T2) (cp : Nat) (w : World) (hT : InT w p t) (hn : t.length ≤ 281474976710656) :
    Calls Try.prog 66 #[.agg #[vI s, vI y, vI l, vI m], .slice p t.length cp] w fun e w' => e = .returned (.bool (okT s y l m t)) ∧ Below w.heap.size w w' := by
  obtain ⟨Y, hYd⟩ : ∃ Y, IntKind.i64.wrap (y - 1) = Y := ⟨_, rfl⟩
  have hY : 1 ≤ y → y ≤ 4 → Y = y - 1 := fun q1 q2 => by rw [← hYd, IntKind.wrap_i64]; omega
  refine calls_of Try.func66 rfl (m := 45) rfl [(0, .agg #[vI s, vI y, vI l, vI m]), (1, .slice p t.length cp)] (Fr_enter [.agg #[vI s, vI y, vI l, vI m], .slice p t.length cp] 45 (Nat.le_of_ble_eq_true rfl)) ?_
  have hH1 : HP Tr w w [] := HP.refl w
  refine WC.seq fun K2 hK2 => WC.region ?_
  refine WL.alloc (c := #[vI s, vI y, vI l, vI m]) (T := 23) hH1 2 rfl (by decide) rfl rfl (fun b2 => vP b2 0) (by kernel_rfl) (fun b2 w3 hw3 => ?_)
  have hH4 : HP Tr w w3 [.cel b2 #[vI s, vI y, vI l, vI m] 23] := hw3.2
  have nb2 := hw3.1
  clear hw3
  refine WL.z (v := .bool false) 4 ?_
  refine WL.nil (WQ.then (hK2 _ _ _ (WC.seq fun K5 hK5 => WC.seq fun K6 hK6 => WC.region ?_)))
  refine WL.z (v := .slice p t.length cp) 7 ?_
  refine WL.z (v := vI (t.length : Int)) 8 ?_
  refine WL.z (v := vI 0) 9 ?_
  refine WL.nil (WQ.then (hK6 _ _ _ (WC.block ?_)))
  refine WC.loop (fun kk0 ll0 ww0 => ∃ (i : Nat), ll0 = [(1, .slice p t.length cp), (2, vP b2 0), (7, .slice p t.length cp), (8, vI (t.length : Int)), (9, vI (i : Int))] ∧ kk0 = t.length - i ∧ (i ≤ t.length) ∧ (∀ j, j < i → okE Y t j = true) ∧ HP Tr w ww0 [.cel b2 #[vI s, vI y, vI l, vI m] 23]) (t.length) [(1, .slice p t.length cp), (2, vP b2 0), (7, .slice p t.length cp), (8, vI (t.length : Int)), (9, vI 0)] ⟨rfl, rfl, rfl, rfl, rfl, trivial⟩ ⟨0, rfl, rfl, Nat.zero_le _, fun j hj => by omega, hH4⟩ ?_
  rintro kk l w8 ⟨i, rfl, hkk, hi, hok, hH9⟩ K7 hK7
  refine WC.seq fun K10 hK10 => WC.region ?_
  by_cases hlt : (i : Int) < (t.length : Int)
  ·
    refine WL.y (v := .bool true) 10 (x_lss rfl rfl rfl (dT (hlt))) ?_
    refine WL.nil (WQ.then (hK10 _ _ _ (WC.seq fun K11 hK11 => WC.yes rfl (WC.skip (WQ.then (hK11 _ _ _ ?_))))))
    refine WC.seq fun K12 hK12 => WC.block (WC.seq fun K13 hK13 => ?_)
    obtain ⟨g, o, rfl, hrow⟩ := hT (by omega)
    refine WC.region ?_
    refine WL.z (v := vI (i : Int)) 11 ?_
    refine WL.y (v := vP g (o + i * 2)) 12 (x_idx (i) (o + i * 2) rfl rfl rfl Try.underlying88 sz83 (by omega) (by omega) (by omega)) ?_
    refine WL.y (v := .agg #[vI (lnT t i), vI (agT t i)]) 13 (x_loadS (cs := [vI (lnT t i), vI (agT t i)]) rfl rfl Try.underlying83 rfl sz83 (HP.oldRange hH9 trivial (hrow i (by omega)))) ?_
    refine WL.alloc (c := #[vI 0, vI 0]) (T := 83) hH9 6 rfl (by decide) rfl rfl (fun b6 => vP b6 0) (by kernel_rfl) (fun b6 w14 hw14 => ?_)
    have hH15 : HP Tr w w14 [.cel b2 #[vI s, vI y, vI l, vI m] 23, .cel b6 #[vI 0, vI 0] 83] := hw14.2
    have nb6 := hw14.1
    clear hw14
    refine WL.z (v := vI (i : Int)) 5 ?_
    refine WL.storeS (H2 := [.cel b2 #[vI s, vI y, vI l, vI m] 23, .cel b6 #[vI (lnT t i), vI (agT t i)] 83]) 1 hH15 rfl rfl rfl rfl rfl rfl sz83 rfl (Nat.le_of_ble_eq_true rfl) rfl rfl ?_
    intro w16 hH17
    refine WL.nil (WQ.then (hK13 _ _ _ (WC.seq fun K18 hK18 => ?_)))
    refine WC.still (by kernel_rfl) (by kernel_rfl) ?_
    have hH19 : HP Tr w _ [.cel b2 #[vI s, vI y, vI l, vI m] 23, .cel b6 #[vI (lnT t i), vI (agT t i)] 83] := HP.drew hH17
    refine WS.y (v := vP b6 0) 14 (x_idxArr (0) (0) rfl rfl rfl Try.underlying83 sz3 (by omega) (by omega) (by omega)) ?_
    refine WS.y (v := vI (lnT t i)) 15 (x_load rfl rfl Try.underlying3 rfl (HP.cell hH19 1 rfl rfl)) ?_
    rcases Bool.eq_false_or_eq_true (wn (lnT t i) 0 999) with hA | hA
    ·
      refine WS.call (v := .bool true) (f := 44) (args := #[vI (lnT t i), vI 0, vI 999]) 16 rfl (Nat.le_of_ble_eq_true rfl) rfl rfl (by kernel_rfl) ((within_at hA _).mono fun e w2 h => ⟨h.1, h.2.symm⟩) ?_
      refine WS.z (v := .bool false) 17 ?_
      refine WS.z (v := .bool false) 18 ?_
      refine WS.y (v := vP b6 1) 19 (x_idxArr (1) (1) rfl rfl rfl Try.underlying83 sz3 (by omega) (by omega) (by omega)) ?_
      refine WS.y (v := vI (agT t i)) 20 (x_load rfl rfl Try.underlying3 rfl (HP.cell hH19 1 rfl rfl)) ?_
      refine WS.z (v := vP b2 1) 21 ?_
      refine WS.y (v := vI y) 22 (x_load rfl rfl Try.underlying3 rfl (HP.cell hH19 0 rfl rfl)) ?_
      refine WS.y (v := vI Y) 23 (x_subW rfl rfl rfl hYd) ?_
      rcases Bool.eq_false_or_eq_true (wn (agT t i) 0 Y) with hB | hB
      ·
        refine WS.call (v := .bool true) (f := 44) (args := #[vI (agT t i), vI 0, vI Y]) 24 rfl (Nat.le_of_ble_eq_true rfl) rfl rfl (by kernel_rfl) ((within_at hB _).mono fun e w2 h => ⟨h.1, h.2.symm⟩) ?_
        refine WS.z (v := .bool false) 25 ?_
        refine WS.z (v := .bool false) 26 ?_
        refine WS.z (v := .bool false) 27 ?_
        refine WS.z (v := vI (i : Int)) 28 ?_
        by_cases h0 : (0 : Int) < (i : Int)
        ·
          refine WS.y (v := .bool true) 29 (x_gtr rfl rfl rfl (dT (h0))) ?_
          refine WS.z (v := .bool true) 30 ?_
          refine WS.y (v := vP b6 0) 31 (x_idxArr (0) (0) rfl rfl rfl Try.underlying83 sz3 (by omega) (by omega) (by omega)) ?_
          refine WS.y (v := vI (lnT t i)) 32 (x_load rfl rfl Try.underlying3 rfl (HP.cell hH19 1 rfl rfl)) ?_
          refine WS.z (v := .slice (some ⟨g, o, none⟩) t.length cp) 33 ?_
          refine WS.z (v := vI (i : Int)) 34 ?_
          refine WS.y (v := vI ((i - 1 : Nat) : Int)) 35 (x_sub (Z := ((i - 1 : Nat) : Int)) rfl rfl rfl (by omega) (by omega) (by omega)) ?_
          refine WS.y (v := vP g (o + (i - 1) * 2)) 36 (x_idx ((i - 1)) (o + (i - 1) * 2) rfl rfl rfl Try.underlying88 sz83 (by omega) (by omega) (by omega)) ?_
          refine WS.y (v := vP g (o + (i - 1) * 2)) 37 (x_idxArr (0) (o + (i - 1) * 2) rfl rfl rfl Try.underlying83 sz3 (by omega) (by omega) (by omega)) ?_
          refine WS.y (v := vI (lnT t (i - 1))) 38 (x_load rfl rfl Try.underlying3 rfl ((HP.oldRange hH19 trivial (hrow (i - 1) (by omega))) 0 _ rfl)) ?_
          by_cases hle : lnT t i ≤ lnT t (i - 1)
          ·
            refine WS.y (v := .bool true) 39 (x_leq rfl rfl rfl (dT (hle))) ?_
            refine WS.z (v := .bool true) 40 ?_
            refine WS.z (v := .bool true) 41 ?_
            refine WS.nilQ (WQ.then (hK18 _ _ _ ?_))
            refine WC.sub (l' := [(1, .slice (some ⟨g, o, none⟩) t.length cp), (2, vP b2 0), (5, vI (i : Int)), (6, vP b6 0), (7, .slice (some ⟨g, o, none⟩) t.length cp), (8, vI (t.length : Int)), (9, vI (i : Int)), (10, .bool true), (41, .bool true)]) ⟨rfl, rfl, rfl, rfl, rfl, rfl, rfl, rfl, rfl, trivial⟩ ?_
            refine WC.yes rfl (WC.seq fun K20 hK20 => ?_)
            have hbad : okE Y t i = false := by unfold okE; rw [hA, hB, decide_eq_true h0, decide_eq_true hle]; rfl
            refine WC.region ?_
            refine WL.z (v := .bool false) 4 ?_
            refine WL.nil (WQ.then (hK20 _ _ _ (WC.ret ?_)))
            refine WQ.inRet ?_
            refine WQ.thenRet ?_
            refine WQ.thenRet ?_
            refine WQ.inRet ?_
            refine WQ.thenRet ?_
            refine WQ.ret1 4 rfl rfl ?_
            exact ⟨by rw [okT_bad hY (by omega) hbad], HP.below hH19⟩
          ·
            refine WS.y (v := .bool false) 39 (x_leq rfl rfl rfl (dF (hle))) ?_
            refine WS.z (v := .bool false) 40 ?_
            refine WS.z (v := .bool false) 41 ?_
            refine WS.nilQ (WQ.then (hK18 _ _ _ ?_))
            refine WC.sub (l' := [(1, .slice (some ⟨g, o, none⟩) t.length cp), (2, vP b2 0), (5, vI (i : Int)), (6, vP b6 0), (7, .slice (some ⟨g, o, none⟩) t.length cp), (8, vI (t.length : Int)), (9, vI (i : Int)), (10, .bool true), (41, .bool false)]) ⟨rfl, rfl, rfl, rfl, rfl, rfl, rfl, rfl, rfl, trivial⟩ ?_
            refine WC.no rfl (WC.skip (WQ.inNormal (WQ.then (hK12 _ _ _ ?_))))
            have hoki : okE Y t i = true := by unfold okE; rw [hA, hB, decide_eq_true h0, decide_eq_false hle]; rfl
            refine WC.region ?_
            refine WL.y (v := vI ((i + 1 : Nat) : Int)) 42 (x_add (Z := ((i + 1 : Nat) : Int)) rfl rfl rfl (by omega) (by omega) (by omega)) ?_
            refine WL.z (v := vI ((i + 1 : Nat) : Int)) 9 ?_
            refine WL.nil ?_
            refine WQ.sub (l' := [(1, .slice (some ⟨g, o, none⟩) t.length cp), (2, vP b2 0), (7, .slice (some ⟨g, o, none⟩) t.length cp), (8, vI (t.length : Int)), (9, vI ((i + 1 : Nat) : Int))]) ⟨rfl, rfl, rfl, rfl, rfl, trivial⟩ ?_
            refine WQ.then (hK7 _ _ _ (by omega) ⟨i + 1, rfl, rfl, by omega, fun j hj => by
                            by_cases q : j = i
                            · subst q; exact hoki
                            · exact hok j (by omega), (HP.drop hH19 1)⟩)
        ·
          refine WS.y (v := .bool false) 29 (x_gtr rfl rfl rfl (dF (h0))) ?_
          refine WS.z (v := .bool false) 30 ?_
          refine WS.p 31 ?_
          refine WS.p 32 ?_
          refine WS.p 33 ?_
          refine WS.p 34 ?_
          refine WS.p 35 ?_
          refine WS.p 36 ?_
          refine WS.p 37 ?_
          refine WS.p 38 ?_
          refine WS.p 39 ?_
          refine WS.z (v := .bool false) 40 ?_
          refine WS.z (v := .bool false) 41 ?_
          refine WS.nilQ (WQ.then (hK18 _ _ _ ?_))
          refine WC.sub (l' := [(1, .slice (some ⟨g, o, none⟩) t.length cp), (2, vP b2 0), (5, vI (i : Int)), (6, vP b6 0), (7, .slice (some ⟨g, o, none⟩) t.length cp), (8, vI (t.length : Int)), (9, vI (i : Int)), (10, .bool true), (41, .bool false)]) ⟨rfl, rfl, rfl, rfl, rfl, rfl, rfl, rfl, rfl, trivial⟩ ?_
          refine WC.no rfl (WC.skip (WQ.inNormal (WQ.then (hK12 _ _ _ ?_))))
          have hoki : okE Y t i = true := by unfold okE; rw [hA, hB, decide_eq_false h0]; rfl
          refine WC.region ?_
          refine WL.y (v := vI ((i + 1 : Nat) : Int)) 42 (x_add (Z := ((i + 1 : Nat) : Int)) rfl rfl rfl (by omega) (by omega) (by omega)) ?_
          refine WL.z (v := vI ((i + 1 : Nat) : Int)) 9 ?_
          refine WL.nil ?_
          refine WQ.sub (l' := [(1, .slice (some ⟨g, o, none⟩) t.length cp), (2, vP b2 0), (7, .slice (some ⟨g, o, none⟩) t.length cp), (8, vI (t.length : Int)), (9, vI ((i + 1 : Nat) : Int))]) ⟨rfl, rfl, rfl, rfl, rfl, trivial⟩ ?_
          refine WQ.then (hK7 _ _ _ (by omega) ⟨i + 1, rfl, rfl, by omega, fun j hj => by
                        by_cases q : j = i
                        · subst q; exact hoki
                        · exact hok j (by omega), (HP.drop hH19 1)⟩)
      ·
        refine WS.call (v := .bool false) (f := 44) (args := #[vI (agT t i), vI 0, vI Y]) 24 rfl (Nat.le_of_ble_eq_true rfl) rfl rfl (by kernel_rfl) ((within_at hB _).mono fun e w2 h => ⟨h.1, h.2.symm⟩) ?_
        refine WS.z (v := .bool true) 25 ?_
        refine WS.z (v := .bool true) 26 ?_
        refine WS.z (v := .bool true) 27 ?_
        refine WS.p 28 ?_
        refine WS.p 29 ?_
        refine WS.p 30 ?_
        refine WS.p 31 ?_
        refine WS.p 32 ?_
        refine WS.p 33 ?_
        refine WS.p 34 ?_
        refine WS.p 35 ?_
        refine WS.p 36 ?_
        refine WS.p 37 ?_
        refine WS.p 38 ?_
        refine WS.p 39 ?_
        refine WS.p 40 ?_
        refine WS.z (v := .bool true) 41 ?_
        refine WS.nilQ (WQ.then (hK18 _ _ _ ?_))
        refine WC.sub (l' := [(1, .slice (some ⟨g, o, none⟩) t.length cp), (2, vP b2 0), (5, vI (i : Int)), (6, vP b6 0), (7, .slice (some ⟨g, o, none⟩) t.length cp), (8, vI (t.length : Int)), (9, vI (i : Int)), (10, .bool true), (41, .bool true)]) ⟨rfl, rfl, rfl, rfl, rfl, rfl, rfl, rfl, rfl, trivial⟩ ?_
        refine WC.yes rfl (WC.seq fun K21 hK21 => ?_)
        have hbad : okE Y t i = false := by unfold okE; rw [hA, hB]; rfl
        refine WC.region ?_
        refine WL.z (v := .bool false) 4 ?_
        refine WL.nil (WQ.then (hK21 _ _ _ (WC.ret ?_)))
        refine WQ.inRet ?_
        refine WQ.thenRet ?_
        refine WQ.thenRet ?_
        refine WQ.inRet ?_
        refine WQ.thenRet ?_
        refine WQ.ret1 4 rfl rfl ?_
        exact ⟨by rw [okT_bad hY (by omega) hbad], HP.below hH19⟩
    ·
      refine WS.call (v := .bool false) (f := 44) (args := #[vI (lnT t i), vI 0, vI 999]) 16 rfl (Nat.le_of_ble_eq_true rfl) rfl rfl (by kernel_rfl) ((within_at hA _).mono fun e w2 h => ⟨h.1, h.2.symm⟩) ?_
      refine WS.z (v := .bool true) 17 ?_
      refine WS.z (v := .bool true) 18 ?_
      refine WS.p 19 ?_
      refine WS.p 20 ?_
      refine WS.p 21 ?_
      refine WS.p 22 ?_
      refine WS.p 23 ?_
      refine WS.p 24 ?_
      refine WS.p 25 ?_
      refine WS.z (v := .bool true) 26 ?_
      refine WS.z (v := .bool true) 27 ?_
      refine WS.p 28 ?_
      refine WS.p 29 ?_
      refine WS.p 30 ?_
      refine WS.p 31 ?_
      refine WS.p 32 ?_
      refine WS.p 33 ?_
      refine WS.p 34 ?_
      refine WS.p 35 ?_
      refine WS.p 36 ?_
      refine WS.p 37 ?_
      refine WS.p 38 ?_
      refine WS.p 39 ?_
      refine WS.p 40 ?_
      refine WS.z (v := .bool true) 41 ?_
      refine WS.nilQ (WQ.then (hK18 _ _ _ ?_))
      refine WC.sub (l' := [(1, .slice (some ⟨g, o, none⟩) t.length cp), (2, vP b2 0), (5, vI (i : Int)), (6, vP b6 0), (7, .slice (some ⟨g, o, none⟩) t.length cp), (8, vI (t.length : Int)), (9, vI (i : Int)), (10, .bool true), (41, .bool true)]) ⟨rfl, rfl, rfl, rfl, rfl, rfl, rfl, rfl, rfl, trivial⟩ ?_
      refine WC.yes rfl (WC.seq fun K22 hK22 => ?_)
      have hbad : okE Y t i = false := by unfold okE; rw [hA]; rfl
      refine WC.region ?_
      refine WL.z (v := .bool false) 4 ?_
      refine WL.nil (WQ.then (hK22 _ _ _ (WC.ret ?_)))
      refine WQ.inRet ?_
      refine WQ.thenRet ?_
      refine WQ.thenRet ?_
      refine WQ.inRet ?_
      refine WQ.thenRet ?_
      refine WQ.ret1 4 rfl rfl ?_
      exact ⟨by rw [okT_bad hY (by omega) hbad], HP.below hH19⟩
  ·
    refine WL.y (v := .bool false) 10 (x_lss rfl rfl rfl (dF (hlt))) ?_
    refine WL.nil (WQ.then (hK10 _ _ _ (WC.seq fun K23 hK23 => WC.no rfl (WC.exit (WQ.thenExit (WQ.thenExit ?_))))))
    refine WQ.inExit (WQ.then (hK5 _ _ _ (WC.seq fun K24 hK24 => WC.region ?_)))
    refine WL.y (v := .agg #[vI s, vI y, vI l, vI m]) 43 (x_loadS (cs := [vI s, vI y, vI l, vI m]) rfl rfl Try.underlying23 rfl sz23 (HP.range hH9 0 rfl rfl)) ?_
    refine WL.call (f := 22) (args := #[.agg #[vI s, vI y, vI l, vI m]]) 44 rfl (Nat.le_of_ble_eq_true rfl) rfl rfl (by kernel_rfl) ?_
    refine (Valid_any s y l m _).mono ?_
    rintro e w25 ⟨rfl, hb26⟩
    refine ⟨_, rfl, ?_⟩
    have hH27 : HP Tr w _ [.cel b2 #[vI s, vI y, vI l, vI m] 23] := HP.call hH9 hb26
    refine WL.z (v := .bool (vG s y l m)) 4 ?_
    refine WL.nil (WQ.then (hK24 _ _ _ (WC.ret ?_)))
    refine WQ.ret1 4 rfl rfl ?_
    exact ⟨by rw [okT_end hY (fun i9 hi9 => hok i9 (by omega))], HP.below hH27⟩
set_option maxRecDepth 20000 in
set_option maxHeartbeats 4000000 in
theorem IsTable_any (s y l m : Int) (p : Option Addr) (t : List T2) (cp : Nat) (w : World) (hT : InT w p t) (hn : t.length ≤ 281474976710656) :
    Calls Try.prog 41 #[.agg #[vI s, vI y, vI l, vI m], .slice p t.length cp] w fun e w' => e = .returned (.bool (okT s y l m t)) ∧ Below w.heap.size w w' := by
  refine calls_of Try.func41 rfl (m := 65) rfl [(0, .agg #[vI s, vI y, vI l, vI m]), (1, .slice p t.length cp)] (Fr_enter [.agg #[vI s, vI y, vI l, vI m], .slice p t.length cp] 65 (Nat.le_of_ble_eq_true rfl)) ?_
  have hH1 : HP Tr w w [] := HP.refl w
  refine WC.seq fun K2 hK2 => WC.region ?_
  refine WL.alloc (c := #[vI s, vI y, vI l, vI m]) (T := 23) hH1 2 rfl (by decide) rfl rfl (fun b2 => vP b2 0) (by kernel_rfl) (fun b2 w3 hw3 => ?_)
  have hH4 : HP Tr w w3 [.cel b2 #[vI s, vI y, vI l, vI m] 23] := hw3.2
  have nb2 := hw3.1
  clear hw3
  refine WL.z (v := .bool false) 4 ?_
  refine WL.nil (WQ.then (hK2 _ _ _ (WC.seq fun K5 hK5 => WC.seq fun K6 hK6 => WC.region ?_)))
  refine WL.y (v := .agg #[vI s, vI y, vI l, vI m]) 6 (x_loadS (cs := [vI s, vI y, vI l, vI m]) rfl rfl Try.underlying23 rfl sz23 (HP.range hH4 0 rfl rfl)) ?_
  refine WL.call (f := 23) (args := #[.agg #[vI s, vI y, vI l, vI m]]) 7 rfl (Nat.le_of_ble_eq_true rfl) rfl rfl (by kernel_rfl) ?_
  refine (rValid_any s y l m _).mono ?_
  rintro e w7 ⟨rfl, hb8⟩
  refine ⟨_, rfl, ?_⟩
  have hH9 : HP Tr w _ [.cel b2 #[vI s, vI y, vI l, vI m] 23] := HP.call hH4 hb8
  refine WL.z (v := .bool (!(vG s y l m))) 8 ?_
  refine WL.nil (WQ.then (hK6 _ _ _ ?_))
  rcases Bool.eq_false_or_eq_true (vG s y l m) with hg | hg
  ·
    obtain ⟨-, ⟨hy1, hy2⟩, -⟩ := vG_iff.1 hg
    refine WC.no (congrArg (fun b => some (Value.bool (!b))) hg) ?_
    refine WC.skip (WQ.then (hK5 _ _ _ (WC.seq fun K10 hK10 => WC.seq fun K11 hK11 => WC.region ?_)))
    refine WL.z (v := vI 0) 5 ?_
    refine WL.nil (WQ.then (hK11 _ _ _ (WC.block ?_)))
    refine WC.loop (fun kk0 ll0 ww0 => ∃ (i : Nat), ll0 = [(1, .slice p t.length cp), (2, vP b2 0), (5, vI (i : Int))] ∧ kk0 = t.length - i ∧ (i ≤ t.length) ∧ (∀ j, j < i → okE (y - 1) t j = true) ∧ HP Tr w ww0 [.cel b2 #[vI s, vI y, vI l, vI m] 23]) (t.length) [(1, .slice p t.length cp), (2, vP b2 0), (5, vI 0)] ⟨rfl, rfl, rfl, trivial⟩ ⟨0, rfl, rfl, Nat.zero_le _, fun j hj => by omega, hH9⟩ ?_
    rintro kk l w13 ⟨i, rfl, hkk, hi, hok, hH14⟩ K12 hK12
    refine WC.seq fun K15 hK15 => WC.seq fun K16 hK16 => WC.region ?_
    refine WL.z (v := vI (i : Int)) 9 ?_
    refine WL.z (v := .slice p t.length cp) 10 ?_
    refine WL.z (v := vI (t.length : Int)) 11 ?_
    by_cases hlt : (i : Int) < (t.length : Int)
    ·
      refine WL.y (v := .bool true) 12 (x_lss rfl rfl rfl (dT (hlt))) ?_
      refine WL.nil (WQ.then (hK16 _ _ _ (WC.yes rfl (WC.skip (WQ.then (hK15 _ _ _ (WC.seq fun K17 hK17 => ?_)))))))
      refine WC.block (WC.seq fun K18 hK18 => ?_)
      obtain ⟨g, o, rfl, hrow⟩ := hT (by omega)
      refine WC.still (by kernel_rfl) (by kernel_rfl) ?_
      have hH19 : HP Tr w _ [.cel b2 #[vI s, vI y, vI l, vI m] 23] := HP.drew hH14
      refine WS.z (v := .slice (some ⟨g, o, none⟩) t.length cp) 15 ?_
      refine WS.z (v := vI (i : Int)) 16 ?_
      refine WS.y (v := vP g (o + i * 2)) 17 (x_idx (i) (o + i * 2) rfl rfl rfl Try.underlying49 sz83 (by omega) (by omega) (by omega)) ?_
      refine WS.y (v := vP g (o + i * 2)) 18 (x_idxArr (0) (o + i * 2) rfl rfl rfl Try.underlying83 sz3 (by omega) (by omega) (by omega)) ?_
      refine WS.y (v := vI (lnT t i)) 19 (x_load rfl rfl Try.underlying3 rfl ((HP.oldRange hH19 trivial (hrow i (by omega))) 0 _ rfl)) ?_
      by_cases h20 : lnT t i < 0
      ·
        refine WS.y (v := .bool true) 20 (x_lss rfl rfl rfl (dT (h20))) ?_
        refine WS.z (v := .bool true) 21 ?_
        refine WS.p 22 ?_
        refine WS.p 23 ?_
        refine WS.p 24 ?_
        refine WS.p 25 ?_
        refine WS.p 26 ?_
        refine WS.p 27 ?_
        refine WS.z (v := .bool true) 28 ?_
        refine WS.z (v := .bool true) 29 ?_
        refine WS.p 30 ?_
        refine WS.p 31 ?_
        refine WS.p 32 ?_
        refine WS.p 33 ?_
        refine WS.p 34 ?_
        refine WS.p 35 ?_
        refine WS.z (v := .bool true) 36 ?_
        refine WS.z (v := .bool true) 37 ?_
        refine WS.p 38 ?_
        refine WS.p 39 ?_
        refine WS.p 40 ?_
        refine WS.p 41 ?_
        refine WS.p 42 ?_
        refine WS.p 43 ?_
        refine WS.p 44 ?_
        refine WS.p 45 ?_
        refine WS.z (v := .bool true) 46 ?_
        refine WS.z (v := .bool true) 47 ?_
        refine WS.p 48 ?_
        refine WS.p 49 ?_
        refine WS.p 50 ?_
        refine WS.p 51 ?_
        refine WS.p 52 ?_
        refine WS.p 53 ?_
        refine WS.p 54 ?_
        refine WS.p 55 ?_
        refine WS.p 56 ?_
        refine WS.p 57 ?_
        refine WS.p 58 ?_
        refine WS.p 59 ?_
        refine WS.p 60 ?_
        refine WS.p 61 ?_
        refine WS.p 62 ?_
        refine WS.p 63 ?_
        refine WS.z (v := .bool true) 64 ?_
        refine WS.nilQ (WQ.then (hK18 _ _ _ ?_))
        refine WC.sub (l' := [(1, .slice (some ⟨g, o, none⟩) t.length cp), (2, vP b2 0), (5, vI (i : Int)), (12, .bool true), (64, .bool true)]) ⟨rfl, rfl, rfl, rfl, rfl, trivial⟩ ?_
        refine WC.yes rfl (WC.seq fun K20 hK20 => ?_)
        have hbad : okE (y - 1) t i = false := by unfold okE; rw [show wn (lnT t i) 0 999 = false by unfold wn; rw [Bool.and_eq_false_iff, decide_eq_false_iff_not, decide_eq_false_iff_not]; omega]; rfl
        refine WC.region ?_
        refine WL.z (v := .bool false) 4 ?_
        refine WL.nil (WQ.then (hK20 _ _ _ (WC.ret ?_)))
        refine WQ.inRet ?_
        refine WQ.thenRet ?_
        refine WQ.thenRet ?_
        refine WQ.inRet ?_
        refine WQ.thenRet ?_
        refine WQ.ret1 4 rfl rfl ?_
        exact ⟨by rw [okT_no (by omega) hbad], HP.below hH19⟩
      ·
        refine WS.y (v := .bool false) 20 (x_lss rfl rfl rfl (dF (h20))) ?_
        refine WS.z (v := .bool false) 21 ?_
        refine WS.z (v := .slice (some ⟨g, o, none⟩) t.length cp) 22 ?_
        refine WS.z (v := vI (i : Int)) 23 ?_
        refine WS.y (v := vP g (o + i * 2)) 24 (x_idx (i) (o + i * 2) rfl rfl rfl Try.underlying49 sz83 (by omega) (by omega) (by omega)) ?_
        refine WS.y (v := vP g (o + i * 2)) 25 (x_idxArr (0) (o + i * 2) rfl rfl rfl Try.underlying83 sz3 (by omega) (by omega) (by omega)) ?_
        refine WS.y (v := vI (lnT t i)) 26 (x_load rfl rfl Try.underlying3 rfl ((HP.oldRange hH19 trivial (hrow i (by omega))) 0 _ rfl)) ?_
        by_cases h27 : (999 : Int) < lnT t i
        ·
          refine WS.y (v := .bool true) 27 (x_gtr rfl rfl rfl (dT (h27))) ?_
          refine WS.z (v := .bool true) 28 ?_
          refine WS.z (v := .bool true) 29 ?_
          refine WS.p 30 ?_
          refine WS.p 31 ?_
          refine WS.p 32 ?_
          refine WS.p 33 ?_
          refine WS.p 34 ?_
          refine WS.p 35 ?_
          refine WS.z (v := .bool true) 36 ?_
          refine WS.z (v := .bool true) 37 ?_
          refine WS.p 38 ?_
          refine WS.p 39 ?_
          refine WS.p 40 ?_
          refine WS.p 41 ?_
          refine WS.p 42 ?_
          refine WS.p 43 ?_
          refine WS.p 44 ?_
          refine WS.p 45 ?_
          refine WS.z (v := .bool true) 46 ?_
          refine WS.z (v := .bool true) 47 ?_
          refine WS.p 48 ?_
          refine WS.p 49 ?_
          refine WS.p 50 ?_
          refine WS.p 51 ?_
          refine WS.p 52 ?_
          refine WS.p 53 ?_
          refine WS.p 54 ?_
          refine WS.p 55 ?_
          refine WS.p 56 ?_
          refine WS.p 57 ?_
          refine WS.p 58 ?_
          refine WS.p 59 ?_
          refine WS.p 60 ?_
          refine WS.p 61 ?_
          refine WS.p 62 ?_
          refine WS.p 63 ?_
          refine WS.z (v := .bool true) 64 ?_
          refine WS.nilQ (WQ.then (hK18 _ _ _ ?_))
          refine WC.sub (l' := [(1, .slice (some ⟨g, o, none⟩) t.length cp), (2, vP b2 0), (5, vI (i : Int)), (12, .bool true), (64, .bool true)]) ⟨rfl, rfl, rfl, rfl, rfl, trivial⟩ ?_
          refine WC.yes rfl (WC.seq fun K21 hK21 => ?_)
          have hbad : okE (y - 1) t i = false := by unfold okE; rw [show wn (lnT t i) 0 999 = false by unfold wn; rw [Bool.and_eq_false_iff, decide_eq_false_iff_not, decide_eq_false_iff_not]; omega]; rfl
          refine WC.region ?_
          refine WL.z (v := .bool false) 4 ?_
          refine WL.nil (WQ.then (hK21 _ _ _ (WC.ret ?_)))
          refine WQ.inRet ?_
          refine WQ.thenRet ?_
          refine WQ.thenRet ?_
          refine WQ.inRet ?_
          refine WQ.thenRet ?_
          refine WQ.ret1 4 rfl rfl ?_
          exact ⟨by rw [okT_no (by omega) hbad], HP.below hH19⟩
        ·
          refine WS.y (v := .bool false) 27 (x_gtr rfl rfl rfl (dF (h27))) ?_
          refine WS.z (v := .bool false) 28 ?_
          refine WS.z (v := .bool false) 29 ?_
          refine WS.z (v := .slice (some ⟨g, o, none⟩) t.length cp) 30 ?_
          refine WS.z (v := vI (i : Int)) 31 ?_
          refine WS.y (v := vP g (o + i * 2)) 32 (x_idx (i) (o + i * 2) rfl rfl rfl Try.underlying49 sz83 (by omega) (by omega) (by omega)) ?_
          refine WS.y (v := vP g (o + i * 2 + 1)) 33 (x_idxArr (1) (o + i * 2 + 1) rfl rfl rfl Try.underlying83 sz3 (by omega) (by omega) (by omega)) ?_
          refine WS.y (v := vI (agT t i)) 34 (x_load rfl rfl Try.underlying3 rfl ((HP.oldRange hH19 trivial (hrow i (by omega))) 1 _ rfl)) ?_
          by_cases h35 : agT t i < 0
          ·
            refine WS.y (v := .bool true) 35 (x_lss rfl rfl rfl (dT (h35))) ?_
            refine WS.z (v := .bool true) 36 ?_
            refine WS.z (v := .bool true) 37 ?_
            refine WS.p 38 ?_
            refine WS.p 39 ?_
            refine WS.p 40 ?_
            refine WS.p 41 ?_
            refine WS.p 42 ?_
            refine WS.p 43 ?_
            refine WS.p 44 ?_
            refine WS.p 45 ?_
            refine WS.z (v := .bool true) 46 ?_
            refine WS.z (v := .bool true) 47 ?_
            refine WS.p 48 ?_
            refine WS.p 49 ?_
            refine WS.p 50 ?_
            refine WS.p 51 ?_
            refine WS.p 52 ?_
            refine WS.p 53 ?_
            refine WS.p 54 ?_
            refine WS.p 55 ?_
            refine WS.p 56 ?_
            refine WS.p 57 ?_
            refine WS.p 58 ?_
            refine WS.p 59 ?_
            refine WS.p 60 ?_
            refine WS.p 61 ?_
            refine WS.p 62 ?_
            refine WS.p 63 ?_
            refine WS.z (v := .bool true) 64 ?_
            refine WS.nilQ (WQ.then (hK18 _ _ _ ?_))
            refine WC.sub (l' := [(1, .slice (some ⟨g, o, none⟩) t.length cp), (2, vP b2 0), (5, vI (i : Int)), (12, .bool true), (64, .bool true)]) ⟨rfl, rfl, rfl, rfl, rfl, trivial⟩ ?_
            refine WC.yes rfl (WC.seq fun K22 hK22 => ?_)
            have hbad : okE (y - 1) t i = false := by unfold okE; rw [show wn (lnT t i) 0 999 = true from wn_iff.2 ⟨by omega, by omega⟩, show wn (agT t i) 0 (y - 1) = false by unfold wn; rw [Bool.and_eq_false_iff, decide_eq_false_iff_not, decide_eq_false_iff_not]; omega]; rfl
            refine WC.region ?_
            refine WL.z (v := .bool false) 4 ?_
            refine WL.nil (WQ.then (hK22 _ _ _ (WC.ret ?_)))
            refine WQ.inRet ?_
            refine WQ.thenRet ?_
            refine WQ.thenRet ?_
            refine WQ.inRet ?_
            refine WQ.thenRet ?_
            refine WQ.ret1 4 rfl rfl ?_
            exact ⟨by rw [okT_no (by omega) hbad], HP.below hH19⟩
          ·
            refine WS.y (v := .bool false) 35 (x_lss rfl rfl rfl (dF (h35))) ?_
            refine WS.z (v := .bool false) 36 ?_
            refine WS.z (v := .bool false) 37 ?_
            refine WS.z (v := .slice (some ⟨g, o, none⟩) t.length cp) 38 ?_
            refine WS.z (v := vI (i : Int)) 39 ?_
            refine WS.y (v := vP g (o + i * 2)) 40 (x_idx (i) (o + i * 2) rfl rfl rfl Try.underlying49 sz83 (by omega) (by omega) (by omega)) ?_
            refine WS.y (v := vP g (o + i * 2 + 1)) 41 (x_idxArr (1) (o + i * 2 + 1) rfl rfl rfl Try.underlying83 sz3 (by omega) (by omega) (by omega)) ?_
            refine WS.y (v := vI (agT t i)) 42 (x_load rfl rfl Try.underlying3 rfl ((HP.oldRange hH19 trivial (hrow i (by omega))) 1 _ rfl)) ?_
            refine WS.z (v := vP b2 1) 43 ?_
            refine WS.y (v := vI y) 44 (x_load rfl rfl Try.underlying3 rfl (HP.cell hH19 0 rfl rfl)) ?_
            by_cases h45 : y ≤ agT t i
            ·
              refine WS.y (v := .bool true) 45 (x_geq rfl rfl rfl (dT (h45))) ?_
              refine WS.z (v := .bool true) 46 ?_
              refine WS.z (v := .bool true) 47 ?_
              refine WS.p 48 ?_
              refine WS.p 49 ?_
              refine WS.p 50 ?_
              refine WS.p 51 ?_
              refine WS.p 52 ?_
              refine WS.p 53 ?_
              refine WS.p 54 ?_
              refine WS.p 55 ?_
              refine WS.p 56 ?_
              refine WS.p 57 ?_
              refine WS.p 58 ?_
              refine WS.p 59 ?_
              refine WS.p 60 ?_
              refine WS.p 61 ?_
              refine WS.p 62 ?_
              refine WS.p 63 ?_
              refine WS.z (v := .bool true) 64 ?_
              refine WS.nilQ (WQ.then (hK18 _ _ _ ?_))
              refine WC.sub (l' := [(1, .slice (some ⟨g, o, none⟩) t.length cp), (2, vP b2 0), (5, vI (i : Int)), (12, .bool true), (64, .bool true)]) ⟨rfl, rfl, rfl, rfl, rfl, trivial⟩ ?_
              refine WC.yes rfl (WC.seq fun K23 hK23 => ?_)
              have hbad : okE (y - 1) t i = false := by unfold okE; rw [show wn (lnT t i) 0 999 = true from wn_iff.2 ⟨by omega, by omega⟩, show wn (agT t i) 0 (y - 1) = false by unfold wn; rw [Bool.and_eq_false_iff, decide_eq_false_iff_not, decide_eq_false_iff_not]; omega]; rfl
              refine WC.region ?_
              refine WL.z (v := .bool false) 4 ?_
              refine WL.nil (WQ.then (hK23 _ _ _ (WC.ret ?_)))
              refine WQ.inRet ?_
              refine WQ.thenRet ?_
              refine WQ.thenRet ?_
              refine WQ.inRet ?_
              refine WQ.thenRet ?_
              refine WQ.ret1 4 rfl rfl ?_
              exact ⟨by rw [okT_no (by omega) hbad], HP.below hH19⟩
            ·
              refine WS.y (v := .bool false) 45 (x_geq rfl rfl rfl (dF (h45))) ?_
              refine WS.z (v := .bool false) 46 ?_
              refine WS.z (v := .bool false) 47 ?_
              refine WS.z (v := vI (i : Int)) 48 ?_
              by_cases h49 : (0 : Int) < (i : Int)
              ·
                refine WS.y (v := .bool true) 49 (x_gtr rfl rfl rfl (dT (h49))) ?_
                refine WS.z (v := .bool true) 50 ?_
                refine WS.z (v := .slice (some ⟨g, o, none⟩) t.length cp) 51 ?_
                refine WS.z (v := vI (i : Int)) 52 ?_
                refine WS.y (v := vP g (o + i * 2)) 53 (x_idx (i) (o + i * 2) rfl rfl rfl Try.underlying49 sz83 (by omega) (by omega) (by omega)) ?_
                refine WS.y (v := vP g (o + i * 2)) 54 (x_idxArr (0) (o + i * 2) rfl rfl rfl Try.underlying83 sz3 (by omega) (by omega) (by omega)) ?_
                refine WS.y (v := vI (lnT t i)) 55 (x_load rfl rfl Try.underlying3 rfl ((HP.oldRange hH19 trivial (hrow i (by omega))) 0 _ rfl)) ?_
                refine WS.z (v := .slice (some ⟨g, o, none⟩) t.length cp) 56 ?_
                refine WS.z (v := vI (i : Int)) 57 ?_
                refine WS.y (v := vI ((i - 1 : Nat) : Int)) 58 (x_sub (Z := ((i - 1 : Nat) : Int)) rfl rfl rfl (by omega) (by omega) (by omega)) ?_
                refine WS.y (v := vP g (o + (i - 1) * 2)) 59 (x_idx ((i - 1)) (o + (i - 1) * 2) rfl rfl rfl Try.underlying49 sz83 (by omega) (by omega) (by omega)) ?_
                refine WS.y (v := vP g (o + (i - 1) * 2)) 60 (x_idxArr (0) (o + (i - 1) * 2) rfl rfl rfl Try.underlying83 sz3 (by omega) (by omega) (by omega)) ?_
                refine WS.y (v := vI (lnT t (i - 1))) 61 (x_load rfl rfl Try.underlying3 rfl ((HP.oldRange hH19 trivial (hrow (i - 1) (by omega))) 0 _ rfl)) ?_
                by_cases h62 : lnT t i ≤ lnT t (i - 1)
                ·
                  refine WS.y (v := .bool true) 62 (x_leq rfl rfl rfl (dT (h62))) ?_
                  refine WS.z (v := .bool true) 63 ?_
                  refine WS.z (v := .bool true) 64 ?_
                  refine WS.nilQ (WQ.then (hK18 _ _ _ ?_))
                  refine WC.sub (l' := [(1, .slice (some ⟨g, o, none⟩) t.length cp), (2, vP b2 0), (5, vI (i : Int)), (12, .bool true), (64, .bool true)]) ⟨rfl, rfl, rfl, rfl, rfl, trivial⟩ ?_
                  refine WC.yes rfl (WC.seq fun K24 hK24 => ?_)
                  have hbad : okE (y - 1) t i = false := by unfold okE; rw [show wn (lnT t i) 0 999 = true from wn_iff.2 ⟨by omega, by omega⟩, show wn (agT t i) 0 (y - 1) = true from wn_iff.2 ⟨by omega, by omega⟩, decide_eq_true h49, decide_eq_true h62]; rfl
                  refine WC.region ?_
                  refine WL.z (v := .bool false) 4 ?_
                  refine WL.nil (WQ.then (hK24 _ _ _ (WC.ret ?_)))
                  refine WQ.inRet ?_
                  refine WQ.thenRet ?_
                  refine WQ.thenRet ?_
                  refine WQ.inRet ?_
                  refine WQ.thenRet ?_
                  refine WQ.ret1 4 rfl rfl ?_
                  exact ⟨by rw [okT_no (by omega) hbad], HP.below hH19⟩
                ·
                  refine WS.y (v := .bool false) 62 (x_leq rfl rfl rfl (dF (h62))) ?_
                  refine WS.z (v := .bool false) 63 ?_
                  refine WS.z (v := .bool false) 64 ?_
                  refine WS.nilQ (WQ.then (hK18 _ _ _ ?_))
                  refine WC.sub (l' := [(1, .slice (some ⟨g, o, none⟩) t.length cp), (2, vP b2 0), (5, vI (i : Int)), (12, .bool true), (64, .bool false)]) ⟨rfl, rfl, rfl, rfl, rfl, trivial⟩ ?_
                  refine WC.no rfl (WC.skip (WQ.inNormal (WQ.then (hK17 _ _ _ ?_))))
                  have hoki : okE (y - 1) t i = true := by unfold okE; rw [show wn (lnT t i) 0 999 = true from wn_iff.2 ⟨by omega, by omega⟩, show wn (agT t i) 0 (y - 1) = true from wn_iff.2 ⟨by omega, by omega⟩, decide_eq_true h49, decide_eq_false h62]; rfl
                  refine WC.region ?_
                  refine WL.z (v := vI (i : Int)) 13 ?_
                  refine WL.y (v := vI ((i + 1 : Nat) : Int)) 14 (x_add (Z := ((i + 1 : Nat) : Int)) rfl rfl rfl (by omega) (by omega) (by omega)) ?_
                  refine WL.z (v := vI ((i + 1 : Nat) : Int)) 5 ?_
                  refine WL.nil ?_
                  refine WQ.sub (l' := [(1, .slice (some ⟨g, o, none⟩) t.length cp), (2, vP b2 0), (5, vI ((i + 1 : Nat) : Int))]) ⟨rfl, rfl, rfl, trivial⟩ ?_
                  refine WQ.then (hK12 _ _ _ (by omega) ⟨i + 1, rfl, rfl, by omega, fun j hj => by
                                        by_cases q : j = i
                                        · subst q; exact hoki
                                        · exact hok j (by omega), hH19⟩)
              ·
                refine WS.y (v := .bool false) 49 (x_gtr rfl rfl rfl (dF (h49))) ?_
                refine WS.z (v := .bool false) 50 ?_
                refine WS.p 51 ?_
                refine WS.p 52 ?_
                refine WS.p 53 ?_
                refine WS.p 54 ?_
                refine WS.p 55 ?_
                refine WS.p 56 ?_
                refine WS.p 57 ?_
                refine WS.p 58 ?_
                refine WS.p 59 ?_
                refine WS.p 60 ?_
                refine WS.p 61 ?_
                refine WS.p 62 ?_
                refine WS.z (v := .bool false) 63 ?_
                refine WS.z (v := .bool false) 64 ?_
                refine WS.nilQ (WQ.then (hK18 _ _ _ ?_))
                refine WC.sub (l' := [(1, .slice (some ⟨g, o, none⟩) t.length cp), (2, vP b2 0), (5, vI (i : Int)), (12, .bool true), (64, .bool false)]) ⟨rfl, rfl, rfl, rfl, rfl, trivial⟩ ?_
                refine WC.no rfl (WC.skip (WQ.inNormal (WQ.then (hK17 _ _ _ ?_))))
                have hoki : okE (y - 1) t i = true := by unfold okE; rw [show wn (lnT t i) 0 999 = true from wn_iff.2 ⟨by omega, by omega⟩, show wn (agT t i) 0 (y - 1) = true from wn_iff.2 ⟨by omega, by omega⟩, decide_eq_false h49]; rfl
                refine WC.region ?_
                refine WL.z (v := vI (i : Int)) 13 ?_
                refine WL.y (v := vI ((i + 1 : Nat) : Int)) 14 (x_add (Z := ((i + 1 : Nat) : Int)) rfl rfl rfl (by omega) (by omega) (by omega)) ?_
                refine WL.z (v := vI ((i + 1 : Nat) : Int)) 5 ?_
                refine WL.nil ?_
                refine WQ.sub (l' := [(1, .slice (some ⟨g, o, none⟩) t.length cp), (2, vP b2 0), (5, vI ((i + 1 : Nat) : Int))]) ⟨rfl, rfl, rfl, trivial⟩ ?_
                refine WQ.then (hK12 _ _ _ (by omega) ⟨i + 1, rfl, rfl, by omega, fun j hj => by
                                    by_cases q : j = i
                                    · subst q; exact hoki
                                    · exact hok j (by omega), hH19⟩)
    ·
      refine WL.y (v := .bool false) 12 (x_lss rfl rfl rfl (dF (hlt))) ?_
      refine WL.nil (WQ.then (hK16 _ _ _ (WC.no rfl (WC.exit (WQ.thenExit (WQ.thenExit (WQ.inExit ?_)))))))
      refine WQ.then (hK10 _ _ _ (WC.seq fun K25 hK25 => WC.region ?_))
      refine WL.z (v := .bool true) 4 ?_
      refine WL.nil (WQ.then (hK25 _ _ _ (WC.ret ?_)))
      refine WQ.ret1 4 rfl rfl ?_
      exact ⟨by rw [okT_iff.2 ⟨hg, fun i9 hi9 => hok i9 (by omega)⟩], HP.below hH14⟩
  ·
    refine WC.yes (congrArg (fun b => some (Value.bool (!b))) hg) ?_
    refine WC.seq fun K26 hK26 => WC.region ?_
    refine WL.z (v := .bool false) 4 ?_
    refine WL.nil (WQ.then (hK26 _ _ _ (WC.ret ?_)))
    refine WQ.thenRet ?_
    refine WQ.ret1 4 rfl rfl ?_
    exact ⟨by unfold okT; rw [hg]; rfl, HP.below hH9⟩
set_option maxRecDepth 20000 in
set_option maxHeartbeats 4000000 in
theorem isNaN_any (a : Int) (w : World) :
    Calls Try.prog 114 #[vI a] w fun e w' => e = .returned (.bool false) ∧ w = w' := by
  refine calls_of Try.func114 rfl (m := 6) rfl [(0, vI a)] (Fr_enter [vI a] 6 (Nat.le_of_ble_eq_true rfl)) ?_
  have hH1 : HP Tr w w [] := HP.refl w
  refine WC.seq fun K2 hK2 => WC.region ?_
  refine WL.z (v := .bool false) 2 ?_
  refine WL.nil (WQ.then (hK2 _ _ _ (WC.seq fun K3 hK3 => WC.region ?_)))
  refine WL.z (v := vI a) 3 ?_
  refine WL.z (v := vI a) 4 ?_
  refine WL.y (v := .bool false) 5 (x_neq rfl rfl rfl (dF (fun h => h rfl))) ?_
  refine WL.z (v := .bool false) 2 ?_
  refine WL.nil (WQ.then (hK3 _ _ _ (WC.ret ?_)))
  refine WQ.ret1 2 rfl rfl ?_
  exact ⟨rfl, rfl⟩
def cmpI (a b : Int) : Int := if a < b then -1 else if b < a then 1 else 0
theorem cmp_lt {a b : Int} (h : cmpI a b < 0) : a < b := by unfold cmpI at h; split at h <;> (try split at h) <;> omega
theorem cmp_ge {a b : Int} (h : ¬ cmpI a b < 0) : b ≤ a := by unfold cmpI at h; split at h <;> (try split at h) <;> omega
theorem cmp_eq {a b : Int} : cmpI a b = 0 ↔ a = b := by unfold cmpI; split <;> (try split) <;> omega
set_option maxRecDepth 20000 in
set_option maxHeartbeats 4000000 in
theorem Compare_any (a b : Int) (w : World) :
    Calls Try.prog 100 #[vI a, vI b] w fun e w' => e = .returned (.int .i64 (cmpI a b)) ∧ w = w' := by
  refine calls_of Try.func100 rfl (m := 20) rfl [(0, vI a), (1, vI b)] (Fr_enter [vI a, vI b] 20 (Nat.le_of_ble_eq_true rfl)) ?_
  have hH1 : HP Tr w w [] := HP.refl w
  refine WC.seq fun K2 hK2 => WC.region ?_
  refine WL.z (v := vI 0) 4 ?_
  refine WL.nil (WQ.then (hK2 _ _ _ (WC.seq fun K3 hK3 => WC.region ?_)))
  refine WL.z (v := vI a) 7 ?_
  refine WL.call (f := 114) (args := #[vI a]) 8 rfl (Nat.le_of_ble_eq_true rfl) rfl rfl (by kernel_rfl) ?_
  refine (isNaN_any _ _).mono ?_
  rintro e w4 ⟨rfl, rfl⟩
  refine ⟨_, rfl, ?_⟩
  refine WL.z (v := .bool false) 5 ?_
  refine WL.nil (WQ.then (hK3 _ _ _ (WC.seq fun K5 hK5 => WC.region ?_)))
  refine WL.z (v := vI b) 9 ?_
  refine WL.call (f := 114) (args := #[vI b]) 10 rfl (Nat.le_of_ble_eq_true rfl) rfl rfl (by kernel_rfl) ?_
  refine (isNaN_any _ _).mono ?_
  rintro e w6 ⟨rfl, rfl⟩
  refine ⟨_, rfl, ?_⟩
  refine WL.z (v := .bool false) 6 ?_
  refine WL.nil (WQ.then (hK5 _ _ _ (WC.seq fun K7 hK7 => WC.seq fun K8 hK8 => WC.region ?_)))
  refine WL.z (v := .bool false) 11 ?_
  refine WL.nil (WQ.then (hK8 _ _ _ (WC.no rfl (WC.skip (WQ.then (hK7 _ _ _ (WC.seq fun K9 hK9 => ?_)))))))
  refine WC.seq fun K10 hK10 => WC.region ?_
  refine WL.z (v := .bool false) 13 ?_
  refine WL.nil (WQ.then (hK10 _ _ _ (WC.no rfl (WC.skip (WQ.then (hK9 _ _ _ (WC.seq fun K11 hK11 => ?_)))))))
  refine WC.seq fun K12 hK12 => WC.region ?_
  refine WL.z (v := vI a) 14 ?_
  refine WL.z (v := vI b) 15 ?_
  by_cases h1 : a < b
  ·
    refine WL.y (v := .bool true) 16 (x_lss rfl rfl rfl (dT (h1))) ?_
    refine WL.nil (WQ.then (hK12 _ _ _ ?_))
    refine WC.sub (l' := [(0, vI a), (1, vI b), (4, vI 0), (5, .bool false), (6, .bool false), (11, .bool false), (13, .bool false), (16, .bool true)]) ⟨rfl, rfl, rfl, rfl, rfl, rfl, rfl, rfl, trivial⟩ ?_
    refine WC.yes rfl (WC.seq fun K13 hK13 => WC.region ?_)
    refine WL.z (v := vI (-1)) 4 ?_
    refine WL.nil (WQ.then (hK13 _ _ _ (WC.ret ?_)))
    refine WQ.thenRet ?_
    refine WQ.ret1 4 rfl rfl ?_
    exact ⟨by unfold cmpI; simp [h1], rfl⟩
  ·
    refine WL.y (v := .bool false) 16 (x_lss rfl rfl rfl (dF (h1))) ?_
    refine WL.nil (WQ.then (hK12 _ _ _ ?_))
    refine WC.sub (l' := [(0, vI a), (1, vI b), (4, vI 0), (5, .bool false), (6, .bool false), (11, .bool false), (13, .bool false), (16, .bool false)]) ⟨rfl, rfl, rfl, rfl, rfl, rfl, rfl, rfl, trivial⟩ ?_
    refine WC.no rfl (WC.skip (WQ.then (hK11 _ _ _ (WC.seq fun K14 hK14 => WC.seq fun K15 hK15 => WC.region ?_))))
    refine WL.z (v := vI a) 17 ?_
    refine WL.z (v := vI b) 18 ?_
    by_cases h2 : b < a
    ·
      refine WL.y (v := .bool true) 19 (x_gtr rfl rfl rfl (dT (h2))) ?_
      refine WL.nil (WQ.then (hK15 _ _ _ (WC.yes rfl (WC.seq fun K16 hK16 => WC.region ?_))))
      refine WL.z (v := vI 1) 4 ?_
      refine WL.nil (WQ.then (hK16 _ _ _ (WC.ret ?_)))
      refine WQ.thenRet ?_
      refine WQ.ret1 4 rfl rfl ?_
      exact ⟨by unfold cmpI; simp [h1, h2], rfl⟩
    ·
      refine WL.y (v := .bool false) 19 (x_gtr rfl rfl rfl (dF (h2))) ?_
      refine WL.nil (WQ.then (hK15 _ _ _ (WC.no rfl (WC.skip (WQ.then (hK14 _ _ _ (WC.seq fun K17 hK17 => ?_)))))))
      refine WC.region ?_
      refine WL.z (v := vI 0) 4 ?_
      refine WL.nil (WQ.then (hK17 _ _ _ (WC.ret ?_)))
      refine WQ.ret1 4 rfl rfl ?_
      exact ⟨by unfold cmpI; simp [h1, h2], rfl⟩
set_option maxRecDepth 20000 in
set_option maxHeartbeats 4000000 in
theorem fcmp_any (a c x : Int) (w : World) :
    Calls Try.prog 102 #[.agg #[vI a, vI c], vI x] w fun e w' => e = .returned (.int .i64 (cmpI a x)) ∧ Below w.heap.size w w' := by
  refine calls_of Try.func102 rfl (m := 9) rfl [(0, .agg #[vI a, vI c]), (1, vI x)] (Fr_enter [.agg #[vI a, vI c], vI x] 9 (Nat.le_of_ble_eq_true rfl)) ?_
  have hH1 : HP Tr w w [] := HP.refl w
  refine WC.seq fun K2 hK2 => WC.region ?_
  refine WL.alloc (c := #[vI a, vI c]) (T := 83) hH1 2 rfl (by decide) rfl rfl (fun b2 => vP b2 0) (by kernel_rfl) (fun b2 w3 hw3 => ?_)
  have hH4 : HP Tr w w3 [.cel b2 #[vI a, vI c] 83] := hw3.2
  have nb2 := hw3.1
  clear hw3
  refine WL.z (v := vI 0) 4 ?_
  refine WL.nil (WQ.then (hK2 _ _ _ (WC.seq fun K5 hK5 => WC.region ?_)))
  refine WL.y (v := vP b2 0) 5 (x_idxArr (0) (0) rfl rfl rfl Try.underlying83 sz3 (by omega) (by omega) (by omega)) ?_
  refine WL.y (v := vI a) 6 (x_load rfl rfl Try.underlying3 rfl (HP.cell hH4 0 rfl rfl)) ?_
  refine WL.z (v := vI x) 7 ?_
  refine WL.call (f := 100) (args := #[vI a, vI x]) 8 rfl (Nat.le_of_ble_eq_true rfl) rfl rfl (by kernel_rfl) ?_
  refine (Compare_any _ _ _).mono ?_
  rintro e w6 ⟨rfl, rfl⟩
  refine ⟨_, rfl, ?_⟩
  refine WL.z (v := vI (cmpI a x)) 4 ?_
  refine WL.nil (WQ.then (hK5 _ _ _ (WC.ret ?_)))
  refine WQ.ret1 4 rfl rfl ?_
  exact ⟨rfl, HP.below hH4⟩
set_option maxRecDepth 20000 in
set_option maxHeartbeats 4000000 in
theorem search_any (p : Option Addr) (t : List T2) (cp : Nat) (w : World) (hT : InT w p t) (x : Int) (hn : t.length ≤ 281474976710656) :
    Calls Try.prog 101 #[.slice p t.length cp, vI x, .func (.func 102) #[] #[]] w fun e w' => ∃ (k : Nat) (fb : Bool), e = .returned (.tuple #[.int .i64 (k : Int), .bool fb]) ∧ k ≤ t.length ∧ (0 < k → lnT t (k - 1) < x) ∧ (k < t.length → x ≤ lnT t k) ∧ (fb = decide (k < t.length ∧ lnT t k = x)) ∧ Below w.heap.size w w' := by
  refine calls_of Try.func101 rfl (m := 49) rfl [(0, .slice p t.length cp), (1, vI x), (2, .func (.func 102) #[] #[])] (Fr_enter [.slice p t.length cp, vI x, .func (.func 102) #[] #[]] 49 (Nat.le_of_ble_eq_true rfl)) ?_
  have hH1 : HP Tr w w [] := HP.refl w
  refine WC.seq fun K2 hK2 => WC.region ?_
  refine WL.z (v := vI 0) 6 ?_
  refine WL.z (v := .bool false) 7 ?_
  refine WL.nil (WQ.then (hK2 _ _ _ (WC.seq fun K3 hK3 => WC.region ?_)))
  refine WL.z (v := .slice p t.length cp) 12 ?_
  refine WL.z (v := vI (t.length : Int)) 13 ?_
  refine WL.z (v := vI (t.length : Int)) 8 ?_
  refine WL.nil (WQ.then (hK3 _ _ _ (WC.seq fun K4 hK4 => WC.region ?_)))
  refine WL.z (v := vI (t.length : Int)) 14 ?_
  refine WL.z (v := vI 0) 9 ?_
  refine WL.z (v := vI (t.length : Int)) 10 ?_
  refine WL.nil (WQ.then (hK4 _ _ _ (WC.seq fun K5 hK5 => WC.block ?_)))
  refine WC.loop (fun kk0 ll0 ww0 => ∃ (i : Nat) (j : Nat), ll0 = [(0, .slice p t.length cp), (1, vI x), (2, .func (.func 102) #[] #[]), (8, vI (t.length : Int)), (9, vI (i : Int)), (10, vI (j : Int))] ∧ kk0 = j - i ∧ (i ≤ j) ∧ (j ≤ t.length) ∧ (0 < i → lnT t (i - 1) < x) ∧ (j < t.length → x ≤ lnT t j) ∧ HP Tr w ww0 []) (t.length) [(0, .slice p t.length cp), (1, vI x), (2, .func (.func 102) #[] #[]), (8, vI (t.length : Int)), (9, vI 0), (10, vI (t.length : Int))] ⟨rfl, rfl, rfl, rfl, rfl, rfl, trivial⟩ ⟨0, t.length, rfl, rfl, Nat.zero_le _, Nat.le_refl _, fun q => absurd q (by omega), fun q => absurd q (by omega), hH1⟩ ?_
  rintro kk l w7 ⟨i, j, rfl, hkk, hij, hjM, hj2, hj3, hH8⟩ K6 hK6
  refine WC.seq fun K9 hK9 => WC.seq fun K10 hK10 => WC.region ?_
  refine WL.z (v := vI (i : Int)) 15 ?_
  refine WL.z (v := vI (j : Int)) 16 ?_
  by_cases hlt : (i : Int) < (j : Int)
  ·
    refine WL.y (v := .bool true) 17 (x_lss rfl rfl rfl (dT (hlt))) ?_
    refine WL.nil (WQ.then (hK10 _ _ _ (WC.yes rfl (WC.skip (WQ.then (hK9 _ _ _ (WC.block ?_)))))))
    refine WC.seq fun K11 hK11 => WC.region ?_
    refine WL.z (v := vI (i : Int)) 18 ?_
    refine WL.z (v := vI (j : Int)) 19 ?_
    refine WL.y (v := vI ((i + j : Nat) : Int)) 20 (x_add (Z := ((i + j : Nat) : Int)) rfl rfl rfl (by omega) (by omega) (by omega)) ?_
    refine WL.y (v := .int .u64 ((i + j : Nat) : Int)) 21 (x_convI rfl rfl (by kernel_rfl) (by kernel_rfl) (by kernel_rfl) (by rw [IntKind.wrap_u64]; omega)) ?_
    refine WL.y (v := .int .u64 (((i + j : Nat) : Int) / 2)) 22 (x_shr1 rfl rfl rfl (by decide)) ?_
    refine WL.y (v := vI (((i + j) / 2 : Nat) : Int)) 23 (x_convI rfl rfl (by kernel_rfl) (by kernel_rfl) (by kernel_rfl) (by rw [IntKind.wrap_i64]; omega)) ?_
    refine WL.z (v := vI (((i + j) / 2 : Nat) : Int)) 11 ?_
    refine WL.nil (WQ.then (hK11 _ _ _ ?_))
    refine WC.sub (l' := [(0, .slice p t.length cp), (1, vI x), (2, .func (.func 102) #[] #[]), (8, vI (t.length : Int)), (9, vI (i : Int)), (10, vI (j : Int)), (11, vI (((i + j) / 2 : Nat) : Int)), (17, .bool true)]) ⟨rfl, rfl, rfl, rfl, rfl, rfl, rfl, rfl, trivial⟩ ?_
    refine WC.seq fun K12 hK12 => ?_
    obtain ⟨g, o, rfl, hrow⟩ := hT (by omega)
    refine WC.region ?_
    refine WL.z (v := .func (.func 102) #[] #[]) 24 ?_
    refine WL.z (v := .slice (some ⟨g, o, none⟩) t.length cp) 25 ?_
    refine WL.z (v := vI (((i + j) / 2 : Nat) : Int)) 26 ?_
    refine WL.y (v := vP g (o + ((i + j) / 2) * 2)) 27 (x_idx (((i + j) / 2)) (o + ((i + j) / 2) * 2) rfl rfl rfl Try.underlying88 sz83 (by omega) (by omega) (by omega)) ?_
    refine WL.y (v := .agg #[vI (lnT t ((i + j) / 2)), vI (agT t ((i + j) / 2))]) 28 (x_loadS (cs := [vI (lnT t ((i + j) / 2)), vI (agT t ((i + j) / 2))]) rfl rfl Try.underlying83 rfl sz83 (HP.oldRange hH8 trivial (hrow ((i + j) / 2) (by omega)))) ?_
    refine WL.z (v := vI x) 29 ?_
    refine WL.call (f := 102) (args := #[.agg #[vI (lnT t ((i + j) / 2)), vI (agT t ((i + j) / 2))], vI x]) 30 rfl (Nat.le_of_ble_eq_true rfl) rfl rfl (by kernel_rfl) ?_
    refine (fcmp_any _ _ _ _).mono ?_
    rintro e w13 ⟨rfl, hb14⟩
    refine ⟨_, rfl, ?_⟩
    have hH15 : HP Tr w _ [] := HP.call hH8 hb14
    by_cases hL : cmpI (lnT t ((i + j) / 2)) x < 0
    ·
      refine WL.y (v := .bool true) 31 (x_lss rfl rfl rfl (dT (hL))) ?_
      refine WL.nil (WQ.then (hK12 _ _ _ ?_))
      refine WC.sub (l' := [(0, .slice (some ⟨g, o, none⟩) t.length cp), (1, vI x), (2, .func (.func 102) #[] #[]), (8, vI (t.length : Int)), (9, vI (i : Int)), (10, vI (j : Int)), (11, vI (((i + j) / 2 : Nat) : Int)), (17, .bool true), (31, .bool true)]) ⟨rfl, rfl, rfl, rfl, rfl, rfl, rfl, rfl, rfl, trivial⟩ ?_
      refine WC.yes rfl (WC.region ?_)
      refine WL.z (v := vI (((i + j) / 2 : Nat) : Int)) 32 ?_
      refine WL.y (v := vI (((i + j) / 2 + 1 : Nat) : Int)) 33 (x_add (Z := (((i + j) / 2 + 1 : Nat) : Int)) rfl rfl rfl (by omega) (by omega) (by omega)) ?_
      refine WL.z (v := vI (((i + j) / 2 + 1 : Nat) : Int)) 9 ?_
      refine WL.nil (WQ.inNormal ?_)
      refine WQ.sub (l' := [(0, .slice (some ⟨g, o, none⟩) t.length cp), (1, vI x), (2, .func (.func 102) #[] #[]), (8, vI (t.length : Int)), (9, vI (((i + j) / 2 + 1 : Nat) : Int)), (10, vI (j : Int))]) ⟨rfl, rfl, rfl, rfl, rfl, rfl, trivial⟩ ?_
      refine WQ.then (hK6 _ _ _ (by omega) ⟨(i + j) / 2 + 1, j, rfl, rfl, by omega, by omega, fun q => by rw [Nat.add_sub_cancel]; exact cmp_lt hL, hj3, hH15⟩)
    ·
      refine WL.y (v := .bool false) 31 (x_lss rfl rfl rfl (dF (hL))) ?_
      refine WL.nil (WQ.then (hK12 _ _ _ ?_))
      refine WC.sub (l' := [(0, .slice (some ⟨g, o, none⟩) t.length cp), (1, vI x), (2, .func (.func 102) #[] #[]), (8, vI (t.length : Int)), (9, vI (i : Int)), (10, vI (j : Int)), (11, vI (((i + j) / 2 : Nat) : Int)), (17, .bool true), (31, .bool false)]) ⟨rfl, rfl, rfl, rfl, rfl, rfl, rfl, rfl, rfl, trivial⟩ ?_
      refine WC.no rfl (WC.region ?_)
      refine WL.z (v := vI (((i + j) / 2 : Nat) : Int)) 34 ?_
      refine WL.z (v := vI (((i + j) / 2 : Nat) : Int)) 10 ?_
      refine WL.nil (WQ.inNormal ?_)
      refine WQ.sub (l' := [(0, .slice (some ⟨g, o, none⟩) t.length cp), (1, vI x), (2, .func (.func 102) #[] #[]), (8, vI (t.length : Int)), (9, vI (i : Int)), (10, vI (((i + j) / 2 : Nat) : Int))]) ⟨rfl, rfl, rfl, rfl, rfl, rfl, trivial⟩ ?_
      refine WQ.then (hK6 _ _ _ (by omega) ⟨i, (i + j) / 2, rfl, rfl, by omega, by omega, hj2, fun q => cmp_ge hL, hH15⟩)
  ·
    refine WL.y (v := .bool false) 17 (x_lss rfl rfl rfl (dF (hlt))) ?_
    refine WL.nil (WQ.then (hK10 _ _ _ (WC.no rfl (WC.exit (WQ.thenExit (WQ.thenExit (WQ.inExit ?_)))))))
    refine WQ.then (hK5 _ _ _ (WC.seq fun K16 hK16 => WC.region ?_))
    refine WL.z (v := vI (i : Int)) 35 ?_
    refine WL.z (v := vI (i : Int)) 36 ?_
    refine WL.z (v := vI (t.length : Int)) 37 ?_
    by_cases hlt2 : (i : Int) < (t.length : Int)
    ·
      obtain ⟨g, o, rfl, hrow⟩ := hT (by omega)
      refine WL.y (v := .bool true) 38 (x_lss rfl rfl rfl (dT (hlt2))) ?_
      refine WL.z (v := .bool true) 39 ?_
      refine WL.z (v := .func (.func 102) #[] #[]) 40 ?_
      refine WL.z (v := .slice (some ⟨g, o, none⟩) t.length cp) 41 ?_
      refine WL.z (v := vI (i : Int)) 42 ?_
      refine WL.y (v := vP g (o + i * 2)) 43 (x_idx (i) (o + i * 2) rfl rfl rfl Try.underlying88 sz83 (by omega) (by omega) (by omega)) ?_
      refine WL.y (v := .agg #[vI (lnT t i), vI (agT t i)]) 44 (x_loadS (cs := [vI (lnT t i), vI (agT t i)]) rfl rfl Try.underlying83 rfl sz83 (HP.oldRange hH8 trivial (hrow i (by omega)))) ?_
      refine WL.z (v := vI x) 45 ?_
      refine WL.call (f := 102) (args := #[.agg #[vI (lnT t i), vI (agT t i)], vI x]) 46 rfl (Nat.le_of_ble_eq_true rfl) rfl rfl (by kernel_rfl) ?_
      refine (fcmp_any _ _ _ _).mono ?_
      rintro e w17 ⟨rfl, hb18⟩
      refine ⟨_, rfl, ?_⟩
      have hH19 : HP Tr w _ [] := HP.call hH8 hb18
      by_cases hq : cmpI (lnT t i) x = 0
      ·
        refine WL.y (v := .bool true) 47 (x_eql rfl rfl rfl (dT (hq))) ?_
        refine WL.z (v := .bool true) 48 ?_
        refine WL.z (v := vI (i : Int)) 6 ?_
        refine WL.z (v := .bool true) 7 ?_
        refine WL.nil (WQ.then (hK16 _ _ _ ?_))
        refine WC.sub (l' := [(0, .slice (some ⟨g, o, none⟩) t.length cp), (1, vI x), (2, .func (.func 102) #[] #[]), (6, vI (i : Int)), (7, .bool true), (8, vI (t.length : Int)), (9, vI (i : Int)), (10, vI (j : Int)), (17, .bool false)]) ⟨rfl, rfl, rfl, rfl, rfl, rfl, rfl, rfl, rfl, trivial⟩ ?_
        refine WC.ret ?_
        refine WQ.ret2 6 7 rfl rfl rfl ?_
        obtain rfl : i = j := by omega
        exact ⟨i, _, rfl, by omega, hj2, hj3, (decide_eq_true ⟨by omega, cmp_eq.1 hq⟩).symm, HP.below hH19⟩
      ·
        refine WL.y (v := .bool false) 47 (x_eql rfl rfl rfl (dF (hq))) ?_
        refine WL.z (v := .bool false) 48 ?_
        refine WL.z (v := vI (i : Int)) 6 ?_
        refine WL.z (v := .bool false) 7 ?_
        refine WL.nil (WQ.then (hK16 _ _ _ ?_))
        refine WC.sub (l' := [(0, .slice (some ⟨g, o, none⟩) t.length cp), (1, vI x), (2, .func (.func 102) #[] #[]), (6, vI (i : Int)), (7, .bool false), (8, vI (t.length : Int)), (9, vI (i : Int)), (10, vI (j : Int)), (17, .bool false)]) ⟨rfl, rfl, rfl, rfl, rfl, rfl, rfl, rfl, rfl, trivial⟩ ?_
        refine WC.ret ?_
        refine WQ.ret2 6 7 rfl rfl rfl ?_
        obtain rfl : i = j := by omega
        exact ⟨i, _, rfl, by omega, hj2, hj3, (decide_eq_false (fun h => hq (cmp_eq.2 h.2))).symm, HP.below hH19⟩
    ·
      refine WL.y (v := .bool false) 38 (x_lss rfl rfl rfl (dF (hlt2))) ?_
      refine WL.z (v := .bool false) 39 ?_
      refine WL.p 40 ?_
      refine WL.p 41 ?_
      refine WL.p 42 ?_
      refine WL.p 43 ?_
      refine WL.p 44 ?_
      refine WL.p 45 ?_
      refine WL.p 46 ?_
      refine WL.p 47 ?_
      refine WL.z (v := .bool false) 48 ?_
      refine WL.z (v := vI (i : Int)) 6 ?_
      refine WL.z (v := .bool false) 7 ?_
      refine WL.nil (WQ.then (hK16 _ _ _ ?_))
      refine WC.sub (l' := [(0, .slice p t.length cp), (1, vI x), (2, .func (.func 102) #[] #[]), (6, vI (i : Int)), (7, .bool false), (8, vI (t.length : Int)), (9, vI (i : Int)), (10, vI (j : Int)), (17, .bool false)]) ⟨rfl, rfl, rfl, rfl, rfl, rfl, rfl, rfl, rfl, trivial⟩ ?_
      refine WC.ret ?_
      refine WQ.ret2 6 7 rfl rfl rfl ?_
      obtain rfl : i = j := by omega
      exact ⟨i, _, rfl, by omega, hj2, hj3, (decide_eq_false (fun h => by omega)).symm, HP.below hH8⟩
set_option maxRecDepth 20000 in
set_option maxHeartbeats 4000000 in
theorem find_any (p : Option Addr) (t : List T2) (cp : Nat) (w : World) (hT : InT w p t) (x : Int) (hn : t.length ≤ 281474976710656) :
    Calls Try.prog 83 #[.slice p t.length cp, vI x] w fun e w' => ∃ (k : Nat) (fb : Bool), e = .returned (.tuple #[.int .i64 (k : Int), .bool fb]) ∧ k ≤ t.length ∧ (0 < k → lnT t (k - 1) < x) ∧ (k < t.length → x ≤ lnT t k) ∧ (fb = decide (k < t.length ∧ lnT t k = x)) ∧ Below w.heap.size w w' := by
  refine calls_of Try.func83 rfl (m := 11) rfl [(0, .slice p t.length cp), (1, vI x)] (Fr_enter [.slice p t.length cp, vI x] 11 (Nat.le_of_ble_eq_true rfl)) ?_
  have hH1 : HP Tr w w [] := HP.refl w
  refine WC.seq fun K2 hK2 => WC.region ?_
  refine WL.z (v := vI 0) 4 ?_
  refine WL.z (v := .bool false) 5 ?_
  refine WL.nil (WQ.then (hK2 _ _ _ (WC.seq fun K3 hK3 => WC.region ?_)))
  refine WL.z (v := .slice p t.length cp) 6 ?_
  refine WL.z (v := vI x) 7 ?_
  refine WL.call (f := 101) (args := #[.slice p t.length cp, vI x, .func (.func 102) #[] #[]]) 8 rfl (Nat.le_of_ble_eq_true rfl) rfl rfl (by kernel_rfl) ?_
  refine (search_any _ t _ _ (hT.below (HP.below hH1)) x hn).mono ?_
  rintro e w4 ⟨k, fb, rfl, hk1, hk2, hk3, hfb, hb5⟩
  refine ⟨_, rfl, ?_⟩
  have hH6 : HP Tr w _ [] := HP.call hH1 hb5
  refine WL.z (v := vI (k : Int)) 9 ?_
  refine WL.z (v := .bool fb) 10 ?_
  refine WL.z (v := vI (k : Int)) 4 ?_
  refine WL.z (v := .bool fb) 5 ?_
  refine WL.nil (WQ.then (hK3 _ _ _ ?_))
  refine WC.sub (l' := [(0, .slice p t.length cp), (1, vI x), (4, vI (k : Int)), (5, .bool fb)]) ⟨rfl, rfl, rfl, rfl, trivial⟩ ?_
  refine WC.ret ?_
  refine WQ.ret2 4 5 rfl rfl rfl ?_
  exact ⟨k, fb, rfl, hk1, hk2, hk3, hfb, HP.below hH6⟩
set_option maxRecDepth 20000 in
set_option maxHeartbeats 4000000 in
theorem age_any (p : Option Addr) (t : List T2) (cp : Nat) (w : World) (hT : InT w p t) (x d : Int) (hn : t.length ≤ 281474976710656) (hs : sT t) :
    Calls Try.prog 68 #[.slice p t.length cp, vI x, vI d] w fun e w' => e = .returned (.int .i64 ((ageT t x).getD d)) ∧ Below w.heap.size w w' := by
  refine calls_of Try.func68 rfl (m := 22) rfl [(0, .slice p t.length cp), (1, vI x), (2, vI d)] (Fr_enter [.slice p t.length cp, vI x, vI d] 22 (Nat.le_of_ble_eq_true rfl)) ?_
  have hH1 : HP Tr w w [] := HP.refl w
  refine WC.seq fun K2 hK2 => WC.region ?_
  refine WL.z (v := vI 0) 6 ?_
  refine WL.nil (WQ.then (hK2 _ _ _ (WC.seq fun K3 hK3 => WC.seq fun K4 hK4 => WC.region ?_)))
  refine WL.z (v := .slice p t.length cp) 10 ?_
  refine WL.z (v := vI x) 11 ?_
  refine WL.call (f := 83) (args := #[.slice p t.length cp, vI x]) 12 rfl (Nat.le_of_ble_eq_true rfl) rfl rfl (by kernel_rfl) ?_
  refine (find_any _ t _ _ (hT.below (HP.below hH1)) x hn).mono ?_
  rintro e w5 ⟨k, fb, rfl, hk1, hk2, hk3, hfb, hb6⟩
  refine ⟨_, rfl, ?_⟩
  have hH7 : HP Tr w _ [] := HP.call hH1 hb6
  refine WL.z (v := .tuple #[vI (k : Int), .bool fb]) 9 ?_
  refine WL.z (v := vI (k : Int)) 13 ?_
  refine WL.z (v := .bool fb) 14 ?_
  refine WL.z (v := vI (k : Int)) 7 ?_
  refine WL.z (v := .bool fb) 8 ?_
  refine WL.nil (WQ.then (hK4 _ _ _ ?_))
  refine WC.sub (l' := [(0, .slice p t.length cp), (1, vI x), (2, vI d), (6, vI 0), (7, vI (k : Int)), (8, .bool fb)]) ⟨rfl, rfl, rfl, rfl, rfl, rfl, trivial⟩ ?_
  refine WC.seq fun K8 hK8 => WC.region ?_
  refine WL.z (v := .bool fb) 15 ?_
  refine WL.nil (WQ.then (hK8 _ _ _ ?_))
  rcases Bool.eq_false_or_eq_true (fb) with c_fb | c_fb
  ·
    rw [c_fb] at hfb
    have hq := of_decide_eq_true hfb.symm
    obtain ⟨g, o, rfl, hrow⟩ := hT (by omega)
    refine WC.yes (congrArg (fun b => some (Value.bool b)) c_fb) ?_
    refine WC.seq fun K9 hK9 => WC.region ?_
    refine WL.z (v := .slice (some ⟨g, o, none⟩) t.length cp) 16 ?_
    refine WL.z (v := vI (k : Int)) 17 ?_
    refine WL.y (v := vP g (o + k * 2)) 18 (x_idx (k) (o + k * 2) rfl rfl rfl Try.underlying88 sz83 (by omega) (hq.1) (by omega)) ?_
    refine WL.y (v := vP g (o + k * 2 + 1)) 19 (x_idxArr (1) (o + k * 2 + 1) rfl rfl rfl Try.underlying83 sz3 (by omega) (by omega) (by omega)) ?_
    refine WL.y (v := vI (agT t k)) 20 (x_load rfl rfl Try.underlying3 rfl ((HP.oldRange hH7 trivial (hrow k (by omega))) 1 _ rfl)) ?_
    refine WL.z (v := vI (agT t k)) 6 ?_
    refine WL.nil (WQ.then (hK9 _ _ _ ?_))
    refine WC.sub (l' := [(0, .slice (some ⟨g, o, none⟩) t.length cp), (1, vI x), (2, vI d), (6, vI (agT t k)), (7, vI (k : Int)), (8, .bool fb), (15, .bool fb)]) ⟨rfl, rfl, rfl, rfl, rfl, rfl, rfl, trivial⟩ ?_
    refine WC.ret ?_
    refine WQ.thenRet ?_
    refine WQ.ret1 6 rfl rfl ?_
    exact ⟨by rw [← hq.2, age_at hs hq.1]; rfl, HP.below hH7⟩
  ·
    refine WC.no (congrArg (fun b => some (Value.bool b)) c_fb) ?_
    refine WC.skip (WQ.then (hK3 _ _ _ (WC.seq fun K10 hK10 => WC.region ?_)))
    refine WL.z (v := vI d) 21 ?_
    refine WL.z (v := vI d) 6 ?_
    refine WL.nil (WQ.then (hK10 _ _ _ (WC.ret ?_)))
    refine WQ.ret1 6 rfl rfl ?_
    rw [c_fb] at hfb
    have hq := of_decide_eq_false hfb.symm
    exact ⟨by rw [age_no hs hk2 (fun h => by have := hk3 h; by_cases e : lnT t k = x; exact absurd ⟨h, e⟩ hq; omega) hk1]; rfl, HP.below hH7⟩
theorem age_first {t : List T2} {k : Nat} (hk : k < t.length) (h : ∀ j, j < k → lnT t j ≠ lnT t k) : ageT t (lnT t k) = some (agT t k) := by
  unfold ageT
  have : t.find? (fun p => p.1 == lnT t k) = some t[k] := by
    rw [List.find?_eq_some_iff_getElem]
    refine ⟨by rw [lnT_get hk]; simp, k, hk, rfl, fun j hj => ?_⟩
    have := h j hj
    rw [lnT_get (by omega)] at this
    simpa using this
  rw [this, agT_get hk]; rfl
set_option maxRecDepth 20000 in
set_option maxHeartbeats 4000000 in
theorem rAge_any (p : Option Addr) (t : List T2) (cp : Nat) (w : World) (hT : InT w p t) (x : Int) (hn : t.length ≤ 281474976710656) :
    Calls Try.prog 69 #[.slice p t.length cp, vI x] w fun e w' => e = .returned (.int .i64 ((ageT t x).getD (-1))) ∧ Below w.heap.size w w' := by
  refine calls_of Try.func69 rfl (m := 24) rfl [(0, .slice p t.length cp), (1, vI x)] (Fr_enter [.slice p t.length cp, vI x] 24 (Nat.le_of_ble_eq_true rfl)) ?_
  have hH1 : HP Tr w w [] := HP.refl w
  refine WC.seq fun K2 hK2 => WC.region ?_
  refine WL.z (v := vI 0) 4 ?_
  refine WL.nil (WQ.then (hK2 _ _ _ (WC.seq fun K3 hK3 => WC.seq fun K4 hK4 => WC.region ?_)))
  refine WL.z (v := vI 0) 5 ?_
  refine WL.nil (WQ.then (hK4 _ _ _ (WC.block ?_)))
  refine WC.loop (fun kk0 ll0 ww0 => ∃ (i : Nat), ll0 = [(0, .slice p t.length cp), (1, vI x), (5, vI (i : Int))] ∧ kk0 = t.length - i ∧ (i ≤ t.length) ∧ (∀ j, j < i → lnT t j ≠ x) ∧ HP Tr w ww0 []) (t.length) [(0, .slice p t.length cp), (1, vI x), (5, vI 0)] ⟨rfl, rfl, rfl, trivial⟩ ⟨0, rfl, rfl, Nat.zero_le _, fun j hj => by omega, hH1⟩ ?_
  rintro kk l w6 ⟨i, rfl, hkk, hi, hno, hH7⟩ K5 hK5
  refine WC.seq fun K8 hK8 => WC.seq fun K9 hK9 => WC.region ?_
  refine WL.z (v := vI (i : Int)) 6 ?_
  refine WL.z (v := .slice p t.length cp) 7 ?_
  refine WL.z (v := vI (t.length : Int)) 8 ?_
  by_cases hlt : (i : Int) < (t.length : Int)
  ·
    refine WL.y (v := .bool true) 9 (x_lss rfl rfl rfl (dT (hlt))) ?_
    refine WL.nil (WQ.then (hK9 _ _ _ (WC.yes rfl (WC.skip (WQ.then (hK8 _ _ _ (WC.seq fun K10 hK10 => ?_)))))))
    refine WC.block (WC.seq fun K11 hK11 => ?_)
    obtain ⟨g, o, rfl, hrow⟩ := hT (by omega)
    refine WC.region ?_
    refine WL.z (v := .slice (some ⟨g, o, none⟩) t.length cp) 12 ?_
    refine WL.z (v := vI (i : Int)) 13 ?_
    refine WL.y (v := vP g (o + i * 2)) 14 (x_idx (i) (o + i * 2) rfl rfl rfl Try.underlying49 sz83 (by omega) (by omega) (by omega)) ?_
    refine WL.y (v := vP g (o + i * 2)) 15 (x_idxArr (0) (o + i * 2) rfl rfl rfl Try.underlying83 sz3 (by omega) (by omega) (by omega)) ?_
    refine WL.y (v := vI (lnT t i)) 16 (x_load rfl rfl Try.underlying3 rfl ((HP.oldRange hH7 trivial (hrow i (by omega))) 0 _ rfl)) ?_
    refine WL.z (v := vI x) 17 ?_
    by_cases heq : lnT t i = x
    ·
      refine WL.y (v := .bool true) 18 (x_eql rfl rfl rfl (dT (heq))) ?_
      refine WL.nil (WQ.then (hK11 _ _ _ ?_))
      refine WC.sub (l' := [(0, .slice (some ⟨g, o, none⟩) t.length cp), (1, vI x), (5, vI (i : Int)), (9, .bool true), (18, .bool true)]) ⟨rfl, rfl, rfl, rfl, rfl, trivial⟩ ?_
      refine WC.yes rfl (WC.seq fun K12 hK12 => WC.region ?_)
      refine WL.z (v := .slice (some ⟨g, o, none⟩) t.length cp) 19 ?_
      refine WL.z (v := vI (i : Int)) 20 ?_
      refine WL.y (v := vP g (o + i * 2)) 21 (x_idx (i) (o + i * 2) rfl rfl rfl Try.underlying49 sz83 (by omega) (by omega) (by omega)) ?_
      refine WL.y (v := vP g (o + i * 2 + 1)) 22 (x_idxArr (1) (o + i * 2 + 1) rfl rfl rfl Try.underlying83 sz3 (by omega) (by omega) (by omega)) ?_
      refine WL.y (v := vI (agT t i)) 23 (x_load rfl rfl Try.underlying3 rfl ((HP.oldRange hH7 trivial (hrow i (by omega))) 1 _ rfl)) ?_
      refine WL.z (v := vI (agT t i)) 4 ?_
      refine WL.nil (WQ.then (hK12 _ _ _ (WC.ret ?_)))
      refine WQ.inRet ?_
      refine WQ.thenRet ?_
      refine WQ.thenRet ?_
      refine WQ.inRet ?_
      refine WQ.thenRet ?_
      refine WQ.ret1 4 rfl rfl ?_
      exact ⟨by rw [← heq, age_first (show i < t.length by omega) (fun j hj => by rw [heq]; exact hno j hj)]; rfl, HP.below hH7⟩
    ·
      have hne := heq
      refine WL.y (v := .bool false) 18 (x_eql rfl rfl rfl (dF (heq))) ?_
      refine WL.nil (WQ.then (hK11 _ _ _ ?_))
      refine WC.sub (l' := [(0, .slice (some ⟨g, o, none⟩) t.length cp), (1, vI x), (5, vI (i : Int)), (9, .bool true), (18, .bool false)]) ⟨rfl, rfl, rfl, rfl, rfl, trivial⟩ ?_
      refine WC.no rfl (WC.skip (WQ.inNormal (WQ.then (hK10 _ _ _ (WC.region ?_)))))
      refine WL.z (v := vI (i : Int)) 10 ?_
      refine WL.y (v := vI ((i + 1 : Nat) : Int)) 11 (x_add (Z := ((i + 1 : Nat) : Int)) rfl rfl rfl (by omega) (by omega) (by omega)) ?_
      refine WL.z (v := vI ((i + 1 : Nat) : Int)) 5 ?_
      refine WL.nil ?_
      refine WQ.sub (l' := [(0, .slice (some ⟨g, o, none⟩) t.length cp), (1, vI x), (5, vI ((i + 1 : Nat) : Int))]) ⟨rfl, rfl, rfl, trivial⟩ ?_
      refine WQ.then (hK5 _ _ _ (by omega) ⟨i + 1, rfl, rfl, by omega, fun j hj => by
                by_cases q : j = i
                · subst q; exact hne
                · exact hno j (by omega), hH7⟩)
  ·
    refine WL.y (v := .bool false) 9 (x_lss rfl rfl rfl (dF (hlt))) ?_
    refine WL.nil (WQ.then (hK9 _ _ _ (WC.no rfl (WC.exit (WQ.thenExit (WQ.thenExit (WQ.inExit ?_)))))))
    refine WQ.then (hK3 _ _ _ (WC.seq fun K13 hK13 => WC.region ?_))
    refine WL.z (v := vI (-1)) 4 ?_
    refine WL.nil (WQ.then (hK13 _ _ _ (WC.ret ?_)))
    refine WQ.ret1 4 rfl rfl ?_
    exact ⟨by rw [age_none (fun j hj => hno j (by omega))]; rfl, HP.below hH7⟩
set_option maxRecDepth 20000 in
theorem eqTd (d : Nat) (x y : Int) (w : World) : (Op.equalIn (d + 1 + 1) 83 (.agg #[.int .i64 x, .int .i64 y]) (.agg #[.int .i64 x, .int .i64 y])).run Try.prog w = .ok true w := by
  have hi1 : ∀ (n : Nat) (a : Int) (w : World), (Op.equalIn (n + 1) 3 (.int .i64 a) (.int .i64 a)).run Try.prog w = .ok true w := fun n a w => by
    rw [run_equalIn_int w n 3 .i64 .i64 a a Try.underlying3]; simp
  obtain ⟨i, hi⟩ : ∃ i, Try.prog.info? 3 = some i := Option.map_eq_some_iff.1 (show (Try.prog.info? 3).map (·.size) = some 1 by kernel_rfl) |>.imp fun _ h => h.1
  have hp : Try.prog.plainKey 3 = true := by kernel_rfl
  have hc : Try.prog.cellsOf 3 = 1 := by kernel_rfl
  rw [run_equalIn_array w (d + 1) _ _ Try.underlying83 hi, hc]
  have p0 : ∀ w : World, (part 3 #[Value.int .i64 x, .int .i64 y] (0 * 1)).run Try.prog w = .ok (.int .i64 x) w := fun w => run_part_plain w hp rfl
  have p1 : ∀ w : World, (part 3 #[Value.int .i64 x, .int .i64 y] (1 * 1)).run Try.prog w = .ok (.int .i64 y) w := fun w => run_part_plain w hp rfl
  have e2 : List.range 2 = [0, 1] := rfl
  rw [e2]
  simp [Op.eqItems, Sem.run_bind, p0, p1, hi1, Result.andThen_ok]
theorem eqT (x y : Int) (w : World) : (Op.equalIn 10000 83 (.agg #[.int .i64 x, .int .i64 y]) (.agg #[.int .i64 x, .int .i64 y])).run Try.prog w = .ok true w := eqTd 9998 x y w
set_option maxRecDepth 20000 in
set_option maxHeartbeats 4000000 in
theorem SameTable_any (p p2 : Option Addr) (t : List T2) (cp cp2 : Nat) (w : World) (hT : InT w p t) (hT2 : InT w p2 t) (hn : t.length ≤ 281474976710656) :
    Calls Try.prog 34 #[.slice p t.length cp, .slice p2 t.length cp2] w fun e w' => e = .returned (.bool true) ∧ Below w.heap.size w w' := by
  refine calls_of Try.func34 rfl (m := 26) rfl [(0, .slice p t.length cp), (1, .slice p2 t.length cp2)] (Fr_enter [.slice p t.length cp, .slice p2 t.length cp2] 26 (Nat.le_of_ble_eq_true rfl)) ?_
  have hH1 : HP Tr w w [] := HP.refl w
  refine WC.seq fun K2 hK2 => WC.region ?_
  refine WL.z (v := .bool false) 4 ?_
  refine WL.nil (WQ.then (hK2 _ _ _ (WC.seq fun K3 hK3 => WC.seq fun K4 hK4 => WC.region ?_)))
  refine WL.z (v := .slice p t.length cp) 6 ?_
  refine WL.z (v := vI (t.length : Int)) 7 ?_
  refine WL.z (v := .slice p2 t.length cp2) 8 ?_
  refine WL.z (v := vI (t.length : Int)) 9 ?_
  refine WL.y (v := .bool false) 10 (x_neq rfl rfl rfl (dF (fun h => h rfl))) ?_
  refine WL.nil (WQ.then (hK4 _ _ _ (WC.no rfl (WC.skip (WQ.then (hK3 _ _ _ (WC.seq fun K5 hK5 => ?_)))))))
  refine WC.seq fun K6 hK6 => WC.region ?_
  refine WL.z (v := vI 0) 5 ?_
  refine WL.nil (WQ.then (hK6 _ _ _ (WC.block ?_)))
  refine WC.loop (fun kk0 ll0 ww0 => ∃ (i : Nat), ll0 = [(0, .slice p t.length cp), (1, .slice p2 t.length cp2), (5, vI (i : Int))] ∧ kk0 = t.length - i ∧ (i ≤ t.length) ∧ HP Tr w ww0 []) (t.length) [(0, .slice p t.length cp), (1, .slice p2 t.length cp2), (5, vI 0)] ⟨rfl, rfl, rfl, trivial⟩ ⟨0, rfl, rfl, Nat.zero_le _, hH1⟩ ?_
  rintro kk l w8 ⟨i, rfl, hkk, hi, hH9⟩ K7 hK7
  refine WC.seq fun K10 hK10 => WC.seq fun K11 hK11 => WC.region ?_
  refine WL.z (v := vI (i : Int)) 11 ?_
  refine WL.z (v := .slice p t.length cp) 12 ?_
  refine WL.z (v := vI (t.length : Int)) 13 ?_
  by_cases hlt : (i : Int) < (t.length : Int)
  ·
    refine WL.y (v := .bool true) 14 (x_lss rfl rfl rfl (dT (hlt))) ?_
    refine WL.nil (WQ.then (hK11 _ _ _ (WC.yes rfl (WC.skip (WQ.then (hK10 _ _ _ (WC.seq fun K12 hK12 => ?_)))))))
    refine WC.block (WC.seq fun K13 hK13 => ?_)
    obtain ⟨g, o, rfl, hrow⟩ := hT (by omega)
    obtain ⟨g2, o2, rfl, hrow2⟩ := hT2 (by omega)
    refine WC.still (by kernel_rfl) (by kernel_rfl) ?_
    have hH14 : HP Tr w _ [] := HP.drew hH9
    refine WS.z (v := .slice (some ⟨g, o, none⟩) t.length cp) 17 ?_
    refine WS.z (v := vI (i : Int)) 18 ?_
    refine WS.y (v := vP g (o + i * 2)) 19 (x_idx (i) (o + i * 2) rfl rfl rfl Try.underlying49 sz83 (by omega) (by omega) (by omega)) ?_
    refine WS.y (v := .agg #[vI (lnT t i), vI (agT t i)]) 20 (x_loadS (cs := [vI (lnT t i), vI (agT t i)]) rfl rfl Try.underlying83 rfl sz83 (HP.oldRange hH14 trivial (hrow i (by omega)))) ?_
    refine WS.z (v := .slice (some ⟨g2, o2, none⟩) t.length cp2) 21 ?_
    refine WS.z (v := vI (i : Int)) 22 ?_
    refine WS.y (v := vP g2 (o2 + i * 2)) 23 (x_idx (i) (o2 + i * 2) rfl rfl rfl Try.underlying49 sz83 (by omega) (by omega) (by omega)) ?_
    refine WS.y (v := .agg #[vI (lnT t i), vI (agT t i)]) 24 (x_loadS (cs := [vI (lnT t i), vI (agT t i)]) rfl rfl Try.underlying83 rfl sz83 (HP.oldRange hH14 trivial (hrow2 i (by omega)))) ?_
    refine WS.y (v := .bool false) 25 (x_neqA rfl rfl rfl (by kernel_rfl) (eqT _ _ _) rfl) ?_
    refine WS.nilQ (WQ.then (hK13 _ _ _ ?_))
    refine WC.sub (l' := [(0, .slice (some ⟨g, o, none⟩) t.length cp), (1, .slice (some ⟨g2, o2, none⟩) t.length cp2), (5, vI (i : Int)), (14, .bool true), (25, .bool false)]) ⟨rfl, rfl, rfl, rfl, rfl, trivial⟩ ?_
    refine WC.no rfl (WC.skip (WQ.inNormal (WQ.then (hK12 _ _ _ (WC.region ?_)))))
    refine WL.z (v := vI (i : Int)) 15 ?_
    refine WL.y (v := vI ((i + 1 : Nat) : Int)) 16 (x_add (Z := ((i + 1 : Nat) : Int)) rfl rfl rfl (by omega) (by omega) (by omega)) ?_
    refine WL.z (v := vI ((i + 1 : Nat) : Int)) 5 ?_
    refine WL.nil ?_
    refine WQ.sub (l' := [(0, .slice (some ⟨g, o, none⟩) t.length cp), (1, .slice (some ⟨g2, o2, none⟩) t.length cp2), (5, vI ((i + 1 : Nat) : Int))]) ⟨rfl, rfl, rfl, trivial⟩ ?_
    refine WQ.then (hK7 _ _ _ (by omega) ⟨i + 1, rfl, rfl, by omega, hH14⟩)
  ·
    refine WL.y (v := .bool false) 14 (x_lss rfl rfl rfl (dF (hlt))) ?_
    refine WL.nil (WQ.then (hK11 _ _ _ (WC.no rfl (WC.exit (WQ.thenExit (WQ.thenExit (WQ.inExit ?_)))))))
    refine WQ.then (hK5 _ _ _ (WC.seq fun K15 hK15 => WC.region ?_))
    refine WL.z (v := .bool true) 4 ?_
    refine WL.nil (WQ.then (hK15 _ _ _ (WC.ret ?_)))
    refine WQ.ret1 4 rfl rfl ?_
    exact ⟨rfl, HP.below hH9⟩
end Ca
end Go.Proofs.Ytmjnakhpekbenaa
namespace Go.Proofs.Ytmjnakhpekbenaa
open Go.RowKit
namespace Fw
namespace Fi
/-- the wide fence, in a round or not -/
def fen (R : Option Nat) : Fence := { Fence.wide with round := R }
def noDef : Op → Bool
  | .defer _ => false
  | _ => true
theorem semAt_fen {R : Option Nat} {ρ : Operand → Value} {o : Oper} (h : noDef o.op = true) : o.semAt (fen R).round ρ = execOp ρ o := by
  cases R with
  | none => rfl
  | some l => exact Oper.semAt_some l ρ o fun c e => by rw [e] at h; cases h
structure Fr (ds : List Deferred) (n : Nat) (l : List (Nat × Value)) (a : Act) : Prop where
  sz : a.tmps.size = n
  df : a.defers = ds
  kn : ∀ t v, look l t = some v → a.tmps[t]? = some v
theorem Fr.ev {ds : List Deferred} {n : Nat} {l : List (Nat × Value)} {a : Act} (h : Fr ds n l a) {x : Operand} {v : Value} (hx : ev l x = some v) : a.eval x = v := by
  cases x with
  | tmp t => simp [Act.eval, h.kn t v hx]
  | const u => simpa [Fw.ev, Act.eval] using hx
  | global g => simpa [Fw.ev, Act.eval] using hx
  | func f => simpa [Fw.ev, Act.eval] using hx
theorem Fr.evD {ds : List Deferred} {n : Nat} {l : List (Nat × Value)} {a : Act} (h : Fr ds n l a) {x : Operand} (hx : (Fw.ev l x).isSome = true) : a.eval x = Fw.evD l x := by
  obtain ⟨v, hv⟩ := Option.isSome_iff_exists.1 hx
  rw [h.ev hv, Fw.evD, hv]; rfl
theorem Fr.put {ds : List Deferred} {n : Nat} {l : List (Nat × Value)} {a : Act} (h : Fr ds n l a) {d : Nat} (hd : d < n) (v : Value) : Fr ds n ((d, v) :: l) (a.put (some d) v) := by
  refine ⟨by simp [Act.put, h.sz], by simp [Act.put, h.df], fun t u ht => ?_⟩
  by_cases e : d = t
  · subst e
    rw [look_cons_eq] at ht
    cases ht
    simp [Act.put, h.sz, hd]
  · rw [look_cons_ne e] at ht
    have := h.kn t u ht
    simp [Act.put, Array.getElem?_setIfInBounds_ne e, this]
theorem Fr.sub {ds : List Deferred} {n : Nat} {l l' : List (Nat × Value)} {a : Act} (h : Fr ds n l a) (hs : Sub l' l) : Fr ds n l' a := ⟨h.sz, h.df, fun t v ht => h.kn t v (hs.look ht)⟩
theorem Fr.getD {ds : List Deferred} {n : Nat} {l : List (Nat × Value)} {a : Act} (h : Fr ds n l a) {t : Nat} {v : Value} (hx : look l t = some v) : a.tmps.getD t undef = v := by
  simp [h.kn t v hx]
def XL (R : Option Nat) (m0 : Nat) (ds : List Deferred) (P : Program) (ops : Array Oper) (Q : Exit → Act → World → Prop) (rest : List Oper) (n : Nat) (l : List (Nat × Value)) (w : World) : Prop := ∀ a, Fr ds n l a → wpListIn (fen R) m0 P ops Q rest a w
def XC (R : Option Nat) (m0 : Nat) (ds : List Deferred) (P : Program) (c : Code) (Q : Exit → Act → World → Prop) (n : Nat) (l : List (Nat × Value)) (w : World) : Prop := ∀ a, Fr ds n l a → Code.wpIn (fen R) m0 P c Q a w
def XQ (ds : List Deferred) (Q : Exit → Act → World → Prop) (e : Exit) (n : Nat) (l : List (Nat × Value)) (w : World) : Prop := ∀ a, Fr ds n l a → Q e a w
section
variable {R : Option Nat} {m0 : Nat} {ds : List Deferred} {P : Program} {ops : Array Oper} {Q : Exit → Act → World → Prop} {rest : List Oper} {n : Nat} {l l' : List (Nat × Value)} {w w' : World}
theorem XC.sub {c : Code} (hs : Sub l' l) (h : XC R m0 ds P c Q n l' w) : XC R m0 ds P c Q n l w := fun a ha => h a (ha.sub hs)
theorem XQ.sub {e : Exit} (hs : Sub l' l) (h : XQ ds Q e n l' w) : XQ ds Q e n l w := fun a ha => h a (ha.sub hs)
theorem wants_spec {a : Act} (ha : Fr ds n l a) {o : Oper} {b : Bool} (h : wants ops l o = some b) : Region.wanted o (yielded ops a.tmps) = b := by
  unfold wants at h
  unfold Region.wanted
  cases hg : o.guard with
  | none => rw [hg] at h; simpa using h
  | some jw =>
    obtain ⟨j, want⟩ := jw
    rw [hg] at h
    simp only [] at h ⊢
    cases ht : (ops[j]?).bind (·.dst) with
    | none => rw [ht] at h; cases h
    | some t =>
      rw [ht] at h
      simp only [Option.bind_some] at h
      cases hl : look l t with
      | none => rw [hl] at h; cases h
      | some u =>
        rw [hl] at h
        have hk := ha.kn t u hl
        cases u
        case bool c =>
          have : yielded ops a.tmps j = some c := by unfold yielded; rw [ht]; simp [hk]
          rw [this]
          simp only [] at h
          cases c <;> cases want <;> simpa using h
        case tuple xs =>
          have : yielded ops a.tmps j = none := by unfold yielded; rw [ht]; simp [hk]
          rw [this]
          simp only [] at h
          cases want <;> simpa using h
        all_goals (simp only [] at h; cases h)
theorem exec_known {a : Act} (ha : Fr ds n l a) {o : Oper} (h : known l o = true) : execOp a.eval o = execOp (evD l) o := by
  unfold known at h
  rw [Bool.and_eq_true] at h
  refine execOp_congr o (fun cs b e => by rw [e] at h; exact absurd h.1 (by simp [noSel])) fun x hx => ha.evD ?_
  exact List.all_eq_true.1 h.2 x (by simpa using hx)
theorem XL.val {o : Oper} {v : Value} (d : Nat) (hd : o.dst = some d) (hn : d < n) (hw : wants ops l o = some true) (hk : known l o = true)
    (hr : (execOp (evD l) o).run P w = .ok (.value v) w') (h : XL R m0 ds P ops Q rest n ((d, v) :: l) w') (hnd : noDef o.op = true := by rfl) : XL R m0 ds P ops Q (o :: rest) n l w := by
  intro a ha
  refine wpListIn_step fun K hK => ?_
  rw [if_pos (wants_spec ha hw)]
  unfold Oper.wpIn
  rw [semAt_fen hnd]
  refine ⟨fun _ _ => trivial, ?_⟩
  rw [exec_known ha hk, hr, Oper.uponIn_value, hd]
  exact hK _ _ (h _ (ha.put hn v))
theorem XL.pure {o : Oper} {v : Value} (d : Nat) (hd : o.dst = some d) (hn : d < n) (hw : wants ops l o = some true) (hk : known l o = true)
    (hr : (execOp (evD l) o).run P w = .ok (.value v) w) (h : XL R m0 ds P ops Q rest n ((d, v) :: l) w) (hnd : noDef o.op = true := by rfl) : XL R m0 ds P ops Q (o :: rest) n l w := XL.val d hd hn hw hk hr h hnd
theorem XL.call {o : Oper} {f : FuncId} {args : Array Value} (d : Nat) (hd : o.dst = some d) (hn : d < n) (hw : wants ops l o = some true) (hk : known l o = true)
    (hr : (execOp (evD l) o).run P w = .ok (.enter f args) w) (h : Calls P f args w fun e w'' => ∃ v, e = .returned v ∧ XL R m0 ds P ops Q rest n ((d, v) :: l) w'') (hnd : noDef o.op = true := by rfl) : XL R m0 ds P ops Q (o :: rest) n l w := by
  intro a ha
  refine wpListIn_step fun K hK => ?_
  rw [if_pos (wants_spec ha hw)]
  unfold Oper.wpIn
  rw [semAt_fen hnd]
  refine ⟨fun _ _ => trivial, ?_⟩
  rw [exec_known ha hk, hr, Oper.uponIn_enter]
  refine ⟨fun q => absurd q Bool.false_ne_true, ?_⟩
  have h2 : CallsIn Fence.wide (m0 - 1) P f args w _ := callsIn_wide.2 h
  have h3 : CallsIn (fen R) (m0 - 1) P f args w (fun e w'' => ∃ v, e = .returned v ∧ XL R m0 ds P ops Q rest n ((d, v) :: l) w'') := h2
  refine h3.mono ?_
  rintro e w'' ⟨v, rfl, hv⟩
  show K (a.put o.dst v) w''
  rw [hd]
  exact hK _ _ (hv _ (ha.put hn v))
theorem XL.nil (h : XQ ds Q .normal n l w) : XL R m0 ds P ops Q [] n l w := fun a ha => h a ha
theorem XC.seq {x y : Code} (h : ∀ K : Act → World → Prop, (∀ ds n l w, XC R m0 ds P y Q n l w → XQ ds (fun _ a w => K a w) .normal n l w) → XC R m0 ds P x (Exit.then K Q) n l w) : XC R m0 ds P (.seq x y) Q n l w :=
  fun a ha => wpIn_seq_k fun K hK => h K (fun ds n l w hy a ha => hK a w (hy a ha)) a ha
theorem XQ.then {K : Act → World → Prop} (h : XQ ds (fun _ a w => K a w) .normal n l w) : XQ ds (Exit.then K Q) .normal n l w := fun a ha => h a ha
theorem XQ.thenExit {K : Act → World → Prop} {id : Nat} (h : XQ ds Q (.exit id) n l w) : XQ ds (Exit.then K Q) (.exit id) n l w := fun a ha => h a ha
theorem XQ.thenRet {K : Act → World → Prop} (h : XQ ds Q .ret n l w) : XQ ds (Exit.then K Q) .ret n l w := fun a ha => h a ha
theorem XQ.inNormal {id : Nat} (h : XQ ds Q .normal n l w) : XQ ds (Exit.inBlock id Q) .normal n l w := fun a ha => h a ha
theorem XQ.inRet {id : Nat} (h : XQ ds Q .ret n l w) : XQ ds (Exit.inBlock id Q) .ret n l w := fun a ha => h a ha
theorem XQ.inExit {id : Nat} (h : XQ ds Q .normal n l w) : XQ ds (Exit.inBlock id Q) (.exit id) n l w := fun a ha => by
  show (if id = id then Q .normal a w else Q (.exit id) a w)
  rw [if_pos rfl]; exact h a ha
theorem XC.skip (h : XQ ds Q .normal n l w) : XC R m0 ds P .skip Q n l w := fun a ha => wpIn_skip (h a ha)
theorem XC.ret (h : XQ ds Q .ret n l w) : XC R m0 ds P .ret Q n l w := fun a ha => wpIn_ret (h a ha)
theorem XC.exit {id : Nat} (h : XQ ds Q (.exit id) n l w) : XC R m0 ds P (.exit id) Q n l w := fun a ha => wpIn_exit (h a ha)
theorem XC.block {id : Nat} {c : Code} (h : XC R m0 ds P c (Exit.inBlock id Q) n l w) : XC R m0 ds P (.block id c) Q n l w := fun a ha => wpIn_block (h a ha)
theorem XC.yes {c : Operand} {x y : Code} (hc : ev l c = some (.bool true)) (h : XC R m0 ds P x Q n l w) : XC R m0 ds P (.cond c x y) Q n l w := fun a ha => wpIn_cond_true (ha.ev hc) (h a ha)
theorem XC.no {c : Operand} {x y : Code} (hc : ev l c = some (.bool false)) (h : XC R m0 ds P y Q n l w) : XC R m0 ds P (.cond c x y) Q n l w := fun a ha => wpIn_cond_false (ha.ev hc) (h a ha)
theorem XC.region {id : Nat} {ls : List Oper} (h : XL R m0 ds P ls.toArray Q ls n l w) : XC R m0 ds P (.region id ls.toArray false) Q n l w := fun a ha => wpIn_region_lit (h a ha)
theorem wpIn_loop_ghost {F : Fence} {n : Nat} {c : Code} {a : Act} (I : Nat → Act → World → Prop) (k0 : Nat) (h₀ : I k0 a w)
    (round : ∀ k a w, I k a w → c.wpIn F n P (Exit.then (fun a' w' => ∃ k', k' < k ∧ I k' a' w') Q) a w) : (Code.loop c).wpIn F n P Q a w := by
  intro b k cs hro hb hr
  have key : ∀ j a w, I j a w →
      ∃ e a' w', Q e a' w' ∧ ArrivesIn (Machine.fenced P F) P (lone (b.atR a (.code c :: .inLoop c :: k)) cs w) b k cs e a' w' := by
    intro j
    induction j using Nat.strongRecOn with
    | _ j ih =>
      intro a w hI
      obtain ⟨e, a₁, w₁, hq, harr⟩ := round j a w hI b (.inLoop c :: k) cs hro hb hr
      cases e with
      | normal =>
        obtain ⟨k', hlt, hI₁⟩ := hq
        obtain ⟨e₂, a₂, w₂, hq₂, harr₂⟩ := ih k' hlt a₁ w₁ hI₁
        exact ⟨e₂, a₂, w₂, hq₂, .of_steps (StepsIn.trans harr (.one (fenced_calm hb hr rfl) stepR_inLoop)) harr₂⟩
      | exit id => exact ⟨_, a₁, w₁, hq, .pass (x := .inLoop c) rfl (fun _ _ => .inl (by simp)) harr⟩
      | goto l => exact ⟨_, a₁, w₁, hq, .pass (x := .inLoop c) rfl (fun _ _ => .inl (by simp)) harr⟩
      | ret => exact ⟨_, a₁, w₁, hq, .pass (x := .inLoop c) rfl (fun _ _ => .inl (by simp)) harr⟩
      | panic ch => exact ⟨_, a₁, w₁, hq, .pass (x := .inLoop c) rfl (fun _ _ => .inl (by simp)) harr⟩
      | outgrown => exact ⟨_, a₁, w₁, hq, .pass (x := .inLoop c) rfl (fun _ _ => .inl (by simp)) harr⟩
  obtain ⟨e, a', w', hq, harr⟩ := key _ a w h₀
  exact ⟨e, a', w', hq, .of_steps (.one (fenced_calm hb hr rfl) stepR_loop) harr⟩
theorem XC.loop {c : Code} (I : Nat → List (Nat × Value) → World → Prop) (k0 : Nat) (l0 : List (Nat × Value)) (hs : Sub l0 l) (h0 : I k0 l0 w)
    (round : ∀ k l w, I k l w → ∀ K : Act → World → Prop, (∀ k' l' w', k' < k → I k' l' w' → XQ ds (fun _ a w => K a w) .normal n l' w') → XC R m0 ds P c (Exit.then K Q) n l w) : XC R m0 ds P (.loop c) Q n l w := by
  intro a ha
  refine wpIn_loop_ghost (fun k a w => ∃ l, Fr ds n l a ∧ I k l w) k0 ⟨l0, ha.sub hs, h0⟩ ?_
  rintro k a w ⟨l, hf, hI⟩
  exact round k l w hI _ (fun k' l' w' hlt hI' a' ha' => ⟨k', hlt, l', ha', hI'⟩) a hf
end
section
variable {R : Option Nat} {m0 : Nat} {ds : List Deferred} {P : Program} {ops : Array Oper} {Q : Exit → Act → World → Prop} {rest : List Oper} {n : Nat} {l : List (Nat × Value)} {w w0 : World} {S : Nat → Prop} {H H2 : List Ent}
theorem XL.alloc {o : Oper} {c : Array Value} {T : TypeId} (hH : HP S w0 w H) (d : Nat) (hd : o.dst = some d) (hn : d < n) (hw : wants ops l o = some true) (hk : known l o = true) (V : Nat → Value)
    (hr : (execOp (evD l) o).run P w = .ok (.value (V w.heap.size)) (w.alloc (.cells c T))) (h : ∀ b w2, w0.heap.size ≤ b ∧ HP S w0 w2 (H ++ [.cel b c T]) → XL R m0 ds P ops Q rest n ((d, V b) :: l) w2) (hnd : noDef o.op = true := by rfl) : XL R m0 ds P ops Q (o :: rest) n l w :=
  XL.val d hd hn hw hk hr (h _ _ ⟨hH.size, hH.alloc c T⟩) hnd
theorem XL.store {o : Oper} {t : TypeId} {x y : Operand} {b off : Nat} {c c' : Array Value} {T : TypeId} {v : Value} (i : Nat) (hH : HP S w0 w H) (ho : o.op = .store t x y) (hd : o.dst = none) (hw : wants ops l o = some true)
    (hi : H[i]? = some (.cel b c T)) (hx : ev l x = some (.pointer (some ⟨b, off, none⟩))) (hy : ev l y = some v) (hs : (P.info? t).map (·.size) = some 1) (h1 : v.oneCell' = true) (hlt : off < c.size) (hc : c.setIfInBounds off v = c') (h2 : H.set i (.cel b c' T) = H2)
    (h : ∀ w2, HP S w0 w2 H2 → XL R m0 ds P ops Q rest n l w2) (hnd : noDef o.op = true := by rfl) : XL R m0 ds P ops Q (o :: rest) n l w := by
  intro a ha
  refine wpListIn_step fun K hK => ?_
  rw [if_pos (wants_spec ha hw)]
  unfold Oper.wpIn
  rw [semAt_fen hnd]
  refine ⟨fun _ _ => trivial, ?_⟩
  rw [x_store (P := P) ho (ha.ev hx) (ha.ev hy) hs h1 (hH.cell i hi (Array.getElem?_eq_getElem hlt)) (hH.free i hi), Oper.uponIn_skip, hd]
  refine hK _ _ (h _ ?_ _ ha)
  rw [← h2, ← hc]
  exact hH.set i hi
theorem XL.storeS {o : Oper} {t : TypeId} {x y : Operand} {b off : Nat} {c c' cells : Array Value} {T : TypeId} (i : Nat) (hH : HP S w0 w H) (ho : o.op = .store t x y) (hd : o.dst = none) (hw : wants ops l o = some true)
    (hi : H[i]? = some (.cel b c T)) (hx : ev l x = some (.pointer (some ⟨b, off, none⟩))) (hy : ev l y = some (.agg cells)) (hs : (P.info? t).map (·.size) = some cells.size) (h1 : cells.toList.all (·.oneCell') = true) (hlt : off + cells.size ≤ c.size)
    (hc : cells.toList.zipIdx.foldl (fun (c : Array Value) (p : Value × Nat) => c.setIfInBounds (off + p.2) p.1) c = c') (h2 : H.set i (.cel b c' T) = H2)
    (h : ∀ w2, HP S w0 w2 H2 → XL R m0 ds P ops Q rest n l w2) (hnd : noDef o.op = true := by rfl) : XL R m0 ds P ops Q (o :: rest) n l w := by
  intro a ha
  refine wpListIn_step fun K hK => ?_
  rw [if_pos (wants_spec ha hw)]
  unfold Oper.wpIn
  rw [semAt_fen hnd]
  refine ⟨fun _ _ => trivial, ?_⟩
  rw [x_storeS (P := P) ho (ha.ev hx) (ha.ev hy) hs h1 (fun j hj => ⟨by rw [hH.cell i hi (Array.getElem?_eq_getElem (show off + j < c.size by omega))]; rfl, hH.free i hi⟩), Oper.uponIn_skip, hd]
  refine hK _ _ (h _ ?_ _ ha)
  rw [← h2, ← hc]
  exact Go.Proofs.Ytmjnakhpekbenaa.Fw.HP.setCells i cells.toList hH hi
theorem XL.append {o : Oper} {t e : TypeId} {inf : TypeInfo} {z : Value} {sz by' : Nat} {x y : Operand} {v : Value} {k m : Nat} {xs news : List Value} {bn cp : Nat} {cn : Array Value} (i j : Nat) (hH : HP S w0 w H) (d : Nat) (hd : o.dst = some d) (hn : d < n) (hw : wants ops l o = some true)
    (ho : o.op = .call { callee := .builtin .append, args := #[x, y], argTypes := #[t, t] }) (hx : ev l x = some v) (hy : ev l y = some (.slice (some ⟨bn, 0, none⟩) m cp))
    (ht : P.underlying t = some (.slice e)) (hi' : P.info? e = some inf) (hz : inf.zero = some z) (hsz : inf.size = sz) (hby : inf.bytes = by') (hzs : z.cells.size = sz) (h0 : 0 < sz)
    (hi : H[i]? = some (.own v k xs e sz)) (hj : H[j]? = some (.cel bn cn e)) (hnews : cn.toList.take news.length = news) (hl : news.length = m * sz) (h1 : ∀ u ∈ news, u.oneCell' = true) (h63 : k + m ≤ maxLen) (hb : (k + m) * by' ≤ 140737488355328)
    (h : ∀ v' w2, (v' = .slice none 0 0 ↔ v = .slice none 0 0 ∧ m = 0) → HP S w0 w2 (H.set i (.own v' (k + m) (xs ++ news) e sz)) → XL R m0 ds P ops Q rest n ((d, v') :: l) w2) (hnd : noDef o.op = true := by rfl) : XL R m0 ds P ops Q (o :: rest) n l w := by
  intro a ha
  refine wpListIn_step fun K hK => ?_
  rw [if_pos (wants_spec ha hw)]
  obtain ⟨v', w2, hr, g1, g2, g3, g4⟩ := append_ent (P := P) w t o.type e inf z sz by' ht hi' hz hsz hby hzs h0 v k xs (hH.get i hi) ⟨bn, 0, none⟩ m cp news hl (fun q u hu => by
    rw [Addr.add_mid]
    exact hH.range j hj (by simpa using hnews) q u hu) h1 h63 hb
  unfold Oper.wpIn
  rw [semAt_fen hnd]
  refine ⟨fun _ _ => trivial, ?_⟩
  rw [x_append (P := P) ho (ha.ev hx) (ha.ev hy) hr, Oper.uponIn_value, hd]
  refine hK _ _ (h v' w2 g3 ?_ _ (ha.put hn v'))
  exact hH.change i hi g2.os g2.tape g2.output g2.size (fun q hq hne => g2.block q hq fun e => hne e.symm) ⟨g1.1, g1.2⟩ g4
end
end Fi
end Fw
end Go.Proofs.Ytmjnakhpekbenaa
namespace Go.Proofs.Ytmjnakhpekbenaa
open Go.RowKit
namespace Fw
namespace Fi
section
variable {R : Option Nat} {m0 : Nat} {ds : List Deferred} {F : Fence} {P : Program} {ops : Array Oper} {Q : Exit → Act → World → Prop} {n : Nat} {l l0 : List (Nat × Value)} {w w0 : World}
theorem any_invX (I : (Nat → Bool) → Act → World → Prop) (hback : ∀ (i : Nat) (o : Oper), ops[i]? = some o → ∀ e ∈ o.after, Region.binds .any e = true → e.on < i)
    (hstep : ∀ D a w i o, I D a w → ops[i]? = some o → D i = false → (∀ e ∈ o.after, Region.binds .any e = true → D e.on = true) → wpOpIn F m0 P ops Q i (I (updD D i)) a w)
    (hend : ∀ D a w, I D a w → (∀ i, i < ops.size → D i = true) → Q .normal a w) :
    ∀ (fuel : Nat) (listed : Array Bool) (a : Act) (w : World), listed.size = ops.size → (listed.toList.filter (! ·)).length ≤ fuel → I (fun j => listed.getD j false) a w → wpAnyIn F m0 P .any ops Q fuel listed a w := by
  have hdone : ∀ (listed : Array Bool), listed.size = ops.size → Region.ready .any ops listed = [] → ∀ i, i < ops.size → listed.getD i false = true := by
    intro listed hsz hr i
    induction i using Nat.strongRecOn with
    | _ i ih =>
      intro hi
      cases hl : listed.getD i false with
      | true => rfl
      | false =>
        exfalso
        have hmem : i ∈ Region.ready .any ops listed := by
          rw [mem_ready]
          refine ⟨?_, ops[i], Array.getElem?_eq_getElem hi, fun e he hb => ?_⟩
          · have hi' : i < listed.size := by omega
            simp [hi'] at hl ⊢
            exact hl
          · have := hback i ops[i] (Array.getElem?_eq_getElem hi) e he hb
            exact ih e.on this (by omega)
        rw [hr] at hmem; cases hmem
  intro fuel
  induction fuel with
  | zero =>
    intro listed a w hsz hcnt hI
    have hall : ∀ i, i < listed.size → listed.getD i false = true := by
      intro i hi
      have h0 : listed.toList.filter (! ·) = [] := List.length_eq_zero_iff.1 (by omega)
      rw [List.filter_eq_nil_iff] at h0
      have := h0 listed[i] (by simp)
      simpa [hi] using this
    have hr : Region.ready .any ops listed = [] := by
      refine List.eq_nil_iff_forall_not_mem.2 fun j hj => ?_
      rw [mem_ready] at hj
      obtain ⟨h1, o, ho, -⟩ := hj
      have hj' : j < listed.size := by rw [hsz]; exact (Array.getElem?_eq_some_iff.1 ho).1
      have := hall j hj'
      simp [hj'] at h1 this
      rw [h1] at this; cases this
    exact ⟨hr, hend _ a w hI fun i hi => hall i (by omega)⟩
  | succ fuel ih =>
    intro listed a w hsz hcnt hI
    refine ⟨fun hr => hend _ a w hI fun i hi => hdone listed hsz hr i hi, fun i hi => ?_⟩
    have hi' := hi
    rw [mem_ready] at hi
    obtain ⟨h1, o, ho, hdep⟩ := hi
    have hlt : i < ops.size := (Array.getElem?_eq_some_iff.1 ho).1
    have hlt' : i < listed.size := by omega
    have hf : listed[i] = false := by simpa [hlt'] using h1
    have hD : ∀ j, (listed.setIfInBounds i true).getD j false = updD (fun j => listed.getD j false) i j := by
      intro j
      by_cases e : j = i
      · subst e; rw [updD_same]; simp [hlt']
      · rw [updD_ne e, getD_set_ne false (Ne.symm e)]
    refine wpOpIn_mono (fun a' w' h => ih (listed.setIfInBounds i true) a' w' (by simpa using hsz) ?_ ?_) (hstep _ a w i o hI ho (by simpa [hlt'] using hf) hdep)
    · have hset : (listed.setIfInBounds i true).toList = listed.toList.take i ++ true :: listed.toList.drop (i + 1) := by
        rw [Array.toList_setIfInBounds, List.set_eq_take_append_cons_drop]
        simp [hlt']
      have hold : listed.toList = listed.toList.take i ++ false :: listed.toList.drop (i + 1) := by
        have q : listed.toList[i]'(by simpa using hlt') = false := by simpa using hf
        have q2 := (List.take_append_drop i listed.toList).symm
        rw [List.drop_eq_getElem_cons (by simpa using hlt'), q] at q2
        exact q2
      rw [hset]
      rw [hold] at hcnt
      simp only [List.filter_append, List.length_append, List.filter_cons] at hcnt ⊢
      simp at hcnt ⊢
      omega
    · rw [show (fun j => (listed.setIfInBounds i true).getD j false) = updD (fun j => listed.getD j false) i from funext hD]
      exact h
/-- a call of the round's yield -/
def RoundOk {γ : Type} (R : Option Nat) (m0 : Nat) (P : Program) (ops : Array Oper) (l0 : List (Nat × Value)) (vs : γ → List Value) (WI : γ → (Nat → Bool) → World → Prop) (i : Nat) (o : Oper) : Prop :=
  ∀ g D w, D i = false → (∀ e ∈ o.after, Region.binds .any e = true → D e.on = true) → Clo ops D → WI g D w →
    wants ops (depEnv ops (vs g) o ++ l0) o = some true ∧ known (depEnv ops (vs g) o ++ l0) o = true ∧
      ∃ l fn tmps assign body, (execOp (evD (depEnv ops (vs g) o ++ l0)) o).run P w = .ok (.round l fn tmps assign body) w ∧ RoundIn (fen R) (m0 - 1) P l fn tmps assign body w fun e w' => ∃ g', (∀ j, D j = true → (vs g')[j]? = (vs g)[j]?) ∧ e = .returned (((vs g')[i]?).getD undef) ∧ WI g' (updD D i) w'
inductive AllOkX {γ : Type} (R : Option Nat) (m0 : Nat) (P : Program) (ops : Array Oper) (l0 : List (Nat × Value)) (vs : γ → List Value) (WI : γ → (Nat → Bool) → World → Prop) : Nat → List Oper → Prop
  | nil (k : Nat) : AllOkX R m0 P ops l0 vs WI k []
  | cons {k : Nat} {o : Oper} {r : List Oper} (h : OpOk P ops l0 vs WI k o) (t : AllOkX R m0 P ops l0 vs WI (k + 1) r) : AllOkX R m0 P ops l0 vs WI k (o :: r)
  | consR {k : Nat} {o : Oper} {r : List Oper} (h : RoundOk R m0 P ops l0 vs WI k o) (t : AllOkX R m0 P ops l0 vs WI (k + 1) r) : AllOkX R m0 P ops l0 vs WI k (o :: r)
theorem AllOkX.get {γ : Type} {vs : γ → List Value} {WI : γ → (Nat → Bool) → World → Prop} : ∀ {ls : List Oper} {k i : Nat} {o : Oper}, AllOkX R m0 P ops l0 vs WI k ls → ls[i]? = some o → OpOk P ops l0 vs WI (k + i) o ∨ RoundOk R m0 P ops l0 vs WI (k + i) o
  | [], _, i, _, _, h => by simp at h
  | x :: r, k, 0, o, h, hi => by
    cases h with
    | cons h1 h2 => simp at hi; subst hi; exact .inl h1
    | consR h1 h2 => simp at hi; subst hi; exact .inr h1
  | x :: r, k, i + 1, o, h, hi => by
    cases h with
    | cons h1 h2 =>
      have := AllOkX.get h2 (i := i) (by simpa using hi)
      rw [show k + (i + 1) = k + 1 + i by omega]; exact this
    | consR h1 h2 =>
      have := AllOkX.get h2 (i := i) (by simpa using hi)
      rw [show k + (i + 1) = k + 1 + i by omega]; exact this
theorem XC.confH {γ : Type} {id : Nat} {ls : List Oper} (l0 : List (Nat × Value)) (vs : γ → List Value) (WI : γ → (Nat → Bool) → World → Prop) (g0 : γ) (hm : P.follows .mixedOrders = true)
    (hsub : Sub l0 l) (hb : backB ls = true) (hd : distB ls = true) (hf : freeH ls l0 = true) (hlen : ∀ g, (vs g).length = ls.length) (hn : (ls.all fun o => match o.dst with | some d => Nat.blt d n | none => true) = true)
    (h0 : WI g0 (fun _ => false) w.drew) (hops : AllOkX R m0 P ls.toArray l0 vs WI 0 ls)
    (hend : ∀ g D w2, (∀ i, Nat.blt i ls.length = true → D i = true) → WI g D w2 → XQ ds Q .normal n (allEnv ls (vs g) ++ l0) w2) (hdfB : (ls.all fun o => noDef o.op) = true := by rfl) : XC R m0 ds P (.region id ls.toArray true) Q n l w := by
  intro a ha
  have hdf : ∀ (i : Nat) (o : Oper), ls[i]? = some o → noDef o.op = true := fun i o ho => List.all_eq_true.1 hdfB o (List.mem_of_getElem? ho)
  refine wpIn_region_any hm ?_
  have hdst : ∀ (i j : Nat) (o o' : Oper) (d : Nat), ls[i]? = some o → ls[j]? = some o' → o.dst = some d → o'.dst = some d → i = j := fun i j o o' d h1 h2 h3 h4 => by
    rcases Nat.lt_trichotomy i j with q | q | q
    · exact absurd h4 (distB_spec hd i j o o' d q h1 h2 h3)
    · exact q
    · exact absurd h3 (distB_spec hd j i o' o d q h2 h1 h4)
  have hfree : ∀ (j : Nat) (o : Oper) (t : Nat) (v : Value), ls[j]? = some o → o.dst = some t → look l0 t = some v → ∀ i, i < ls.length → i = j ∨ ∃ e ∈ o.after, Region.binds .any e = true ∧ e.on = i := fun j o t v h1 h2 h3 => by
    have q := List.all_eq_true.1 (List.all_eq_true.1 hf (t, v) (look_mem h3)) (o, j) (by rw [List.mem_zipIdx_iff_getElem?]; simpa using h1)
    simp only [h2] at q
    rw [show Nat.beq t t = true from Nat.beq_refl t] at q
    intro i hi
    simp at q
    rcases q i hi with q3 | ⟨k, hk, q4, q5⟩
    · exact .inl q3
    · exact .inr ⟨o.after[k], Array.getElem_mem hk, q4, q5⟩
  have hnn : ∀ (i : Nat) (o : Oper) (d : Nat), ls[i]? = some o → o.dst = some d → d < n := fun i o d h1 h2 => by
    have q := List.all_eq_true.1 hn o (List.mem_of_getElem? h1)
    rw [h2] at q
    exact Nat.le_of_ble_eq_true q
  let I : (Nat → Bool) → Act → World → Prop := fun D a w => ∃ g, a.tmps.size = n ∧ a.defers = ds ∧
    (∀ (j : Nat) (o : Oper) (d : Nat), ls[j]? = some o → D j = true → o.dst = some d → a.tmps[d]? = some (((vs g)[j]?).getD undef)) ∧ (∀ t v, look l0 t = some v → (∀ (j : Nat) (o : Oper), ls[j]? = some o → o.dst = some t → D j = false) → a.tmps[t]? = some v) ∧ Clo ls.toArray D ∧ WI g D w
  refine any_invX (F := fen R) (m0 := m0) (ops := ls.toArray) I ?_ ?_ ?_ _ _ a _ (by simp) (by
    refine Nat.le_trans (List.length_filter_le _ _) ?_
    simp) ?_
  · intro i o ho e he hbe
    have hm' : (o, i) ∈ ls.zipIdx := by
      rw [List.mem_zipIdx_iff_getElem?]; simpa using ho
    have q := List.all_eq_true.1 (List.all_eq_true.1 hb (o, i) hm') e (by simpa using he)
    rw [hbe] at q
    simpa using q
  · rintro D a w i o ⟨g, i1, i2, i3, i4, i6, i5⟩ ho hDi hdep
    have ho' : ls[i]? = some o := by simpa using ho
    have hfr : Fr ds n (depEnv ls.toArray (vs g) o ++ l0) a := by
      refine ⟨i1, i2, fun t v ht => ?_⟩
      rcases look_append ht with q | q
      · obtain ⟨e, he, heq⟩ := List.mem_filterMap.1 q
        cases hbe : Region.binds .any e with
        | false => rw [hbe] at heq; cases heq
        | true =>
          rw [hbe] at heq
          simp only [] at heq
          cases hoe : ls.toArray[e.on]? with
          | none => rw [hoe] at heq; cases heq
          | some oe =>
            rw [hoe] at heq
            simp only [Option.bind_some] at heq
            cases hde : oe.dst with
            | none => rw [hde] at heq; cases heq
            | some d =>
              rw [hde] at heq
              simp only [Option.map_some, Option.some.injEq, Prod.mk.injEq] at heq
              obtain ⟨rfl, rfl⟩ := heq
              exact i3 e.on oe d (by simpa using hoe) (hdep e (by simpa using he) hbe) hde
      · refine i4 t v q fun j oj hj hdj => ?_
        cases hDj : D j with
        | false => rfl
        | true =>
          have hil : i < ls.length := (List.getElem?_eq_some_iff.1 ho').1
          rcases hfree j oj t v hj hdj q i hil with rfl | ⟨e, he, hbe, heq⟩
          · rw [hDi] at hDj; cases hDj
          · have := i6 j oj (by simpa using hj) hDj e he hbe
            rw [heq, hDi] at this; cases this
    have hclo : Clo ls.toArray (updD D i) := fun j oj hj hDj e he hbe => by
      by_cases q : j = i
      · subst q
        rw [ho] at hj; cases hj
        by_cases q2 : e.on = j
        · rw [q2]; exact updD_same D j
        · rw [updD_ne q2]; exact hdep e he hbe
      · rw [updD_ne q] at hDj
        by_cases q2 : e.on = i
        · rw [q2]; exact updD_same D i
        · rw [updD_ne q2]; exact i6 j oj hj hDj e he hbe
    have hnext : ∀ (g' : γ) (v : Value) (w' : World), (∀ j, D j = true → (vs g')[j]? = (vs g)[j]?) → (∀ d, o.dst = some d → v = ((vs g')[i]?).getD undef) → WI g' (updD D i) w' → I (updD D i) (a.put o.dst v) w' := fun g' v w' hg hv hW => by
      refine ⟨g', ?_, ?_, ?_, ?_, hclo, hW⟩
      · cases o.dst <;> simp [Act.put, i1]
      · cases o.dst <;> simp [Act.put, i2]
      · intro j oj d hj hDj hdj
        by_cases e : j = i
        · subst e
          rw [ho'] at hj; cases hj
          rw [hdj, ← hv d hdj]
          have := hnn _ _ _ ho' hdj
          simp [Act.put, i1, this]
        · rw [updD_ne e] at hDj
          have h1 := i3 j oj d hj hDj hdj
          rw [← hg j hDj] at h1
          cases hdo : o.dst with
          | none => simpa [Act.put] using h1
          | some d' =>
            have hne : d' ≠ d := fun q => e (hdst j i oj o d hj ho' hdj (by rw [hdo, q]))
            simp [Act.put, Array.getElem?_setIfInBounds_ne hne, h1]
      · intro t u hu hno
        have hne : o.dst ≠ some t := fun q => by
          have := hno i o ho' q
          rw [updD_same] at this; cases this
        have hq := i4 t u hu fun j oj hj hdj => by
          have := hno j oj hj hdj
          by_cases e : j = i
          · subst e; rw [updD_same] at this; cases this
          · rwa [updD_ne e] at this
        cases hdo : o.dst with
        | none => simpa [Act.put] using hq
        | some d' =>
          have hne2 : d' ≠ t := fun q => hne (by rw [hdo, q])
          simp [Act.put, Array.getElem?_setIfInBounds_ne hne2, hq]
    have hok := AllOkX.get hops ho'
    rw [Nat.zero_add] at hok
    unfold wpOpIn
    simp only [ho]
    rcases hok with hok | hok
    · rcases hok g D w hDi hdep i6 i5 with ⟨h1, h2, h3⟩ | ⟨h1, h2, h3⟩
      · rw [if_pos (wants_spec hfr h1)]
        unfold Oper.wpIn
        rw [semAt_fen (hdf i o ho')]
        refine ⟨fun _ _ => trivial, ?_⟩
        rw [exec_known hfr h2]
        rcases h3 with ⟨g', w', hg, hr, hW⟩ | ⟨w', hr, hdn, hW⟩ | ⟨f, args, hr, hc⟩
        · rw [hr, Oper.uponIn_value]
          exact hnext g' _ _ hg (fun _ _ => rfl) hW
        · rw [hr, Oper.uponIn_skip]
          exact hnext g _ _ (fun _ _ => rfl) (fun d hd' => by rw [hdn] at hd'; cases hd') hW
        · rw [hr, Oper.uponIn_enter]
          refine ⟨fun q => absurd q Bool.false_ne_true, ?_⟩
          have h2 : CallsIn Fence.wide (m0 - 1) P f args w _ := callsIn_wide.2 hc
          have h3 : CallsIn (fen R) (m0 - 1) P f args w _ := h2
          refine h3.mono ?_
          rintro e w' ⟨g', hg, rfl, hW⟩
          exact hnext g' _ _ hg (fun _ _ => rfl) hW
      · rw [if_neg (by rw [wants_spec hfr h1]; exact Bool.false_ne_true)]
        exact ⟨fun _ _ => trivial, hnext g _ _ (fun _ _ => rfl) (fun _ _ => h2.symm) h3⟩
    · obtain ⟨h1, h2, l, fn, tmps, assign, body, hr, hc⟩ := hok g D w hDi hdep i6 i5
      rw [if_pos (wants_spec hfr h1)]
      unfold Oper.wpIn
      rw [semAt_fen (hdf i o ho')]
      refine ⟨fun _ _ => trivial, ?_⟩
      rw [exec_known hfr h2, hr, Oper.uponIn_round]
      refine ⟨fun q => absurd q Bool.false_ne_true, ?_⟩
      refine hc.mono ?_
      rintro e w' ⟨g', hg, rfl, hW⟩
      exact hnext g' _ _ hg (fun _ _ => rfl) hW
  · rintro D a w ⟨g, i1, i2, i3, i4, i6, i5⟩ hall
    refine hend g D w (fun i hi => hall i (by simpa using hi)) i5 a ⟨i1, i2, fun t v ht => ?_⟩
    rcases look_append2 ht with q | ⟨q, q5⟩
    · obtain ⟨⟨o, u⟩, hp, heq⟩ := List.mem_filterMap.1 q
      obtain ⟨j, hj⟩ := List.mem_iff_getElem?.1 hp
      rw [List.getElem?_zip_eq_some] at hj
      cases hdo : o.dst with
      | none => simp [hdo] at heq
      | some d =>
        simp [hdo] at heq
        obtain ⟨rfl, rfl⟩ := heq
        have := i3 j o d hj.1 (hall j (by have := (List.getElem?_eq_some_iff.1 hj.1).1; simpa using this)) hdo
        rw [hj.2] at this
        simpa using this
    · refine i4 t v q fun j o hj hdj => ?_
      exfalso
      have hvj : ∃ u, (vs g)[j]? = some u := ⟨(vs g)[j]'(by rw [hlen]; exact (List.getElem?_eq_some_iff.1 hj).1), List.getElem?_eq_getElem _⟩
      obtain ⟨u, hu⟩ := hvj
      exact q5 u (List.mem_filterMap.2 ⟨(o, u), List.mem_iff_getElem?.2 ⟨j, by rw [List.getElem?_zip_eq_some]; exact ⟨hj, hu⟩⟩, by simp [hdj]⟩)
  · have hno : ∀ j, (Array.replicate ls.toArray.size false).getD j false = true → False := fun j hDj' => by
      by_cases hj : j < ls.length
      · simp [hj] at hDj'
      · simp [hj] at hDj'
    refine ⟨g0, ha.sz, ha.df, fun j o d _ hDj _ => (hno j hDj).elim, fun t v ht _ => ha.kn t v (hsub.look ht), fun j o _ hDj => (hno j hDj).elim, ?_⟩
    · have : (fun j => (Array.replicate ls.toArray.size false).getD j false) = fun _ => false := by
        funext j
        by_cases hj : j < ls.length <;> simp [hj]
      rw [this]
      exact h0
end
end Fi
end Fw
end Go.Proofs.Ytmjnakhpekbenaa
namespace Go.Proofs.Ytmjnakhpekbenaa
open Go.RowKit
namespace Fw
namespace Fi
open Fw (Out OwnB)
theorem HPgrown {S : Nat → Prop} {w0 W W' : World} {H : List Ent} {row : Option Nat} (h : HP S w0 W H) (hg : W.grownBy W' row) (hr : ∀ r, row = some r → w0.heap.size ≤ r ∧ ∃ o : Obj, W.heap[r]? = some o ∧ o.isCells = false) : HP S w0 W' H := by
  refine ⟨hg.os.trans h.os, hg.tape.trans h.tape, hg.output.trans h.output, Nat.le_trans h.size hg.size, fun k hk hS => ?_, fun e he => ?_, h.fresh, h.apart⟩
  · rw [hg.block k (Nat.lt_of_lt_of_le hk h.size) fun e => by have := (hr k e.symm).1; omega]
    exact h.keep k hk hS
  · refine Fw.Ent.keep (h.hold e he) fun b hb => hg.block b (Fw.Ent.lt (h.hold e he) hb) fun q => ?_
    obtain ⟨-, o, ho, hc⟩ := hr b q.symm
    have hcell : ∃ c T z, W.heap[b]? = some (.cells c T z) := by
      have := h.hold e he
      cases e with
      | cel b' c T => simp only [Fw.Ent.blk, Option.some.injEq] at hb; subst hb; exact ⟨_, _, _, this⟩
      | own v k xs e s =>
        rcases this.2 with ⟨rfl, _⟩ | ⟨g, cap, cur, rfl, _, hh, _⟩
        · cases hb
        · simp only [Fw.Ent.blk, Value.ownBlock, Option.some.injEq] at hb; subst hb; exact ⟨_, _, _, hh⟩
    obtain ⟨c, T, z, hcc⟩ := hcell
    rw [hcc] at ho; cases ho; cases hc
theorem HPcells {S : Nat → Prop} {w0 W : World} {H : List Ent} (h : HP S w0 W H) {e : Ent} (he : e ∈ H) {b : Nat} (hb : e.blk = some b) : ∃ c T z, W.heap[b]? = some (.cells c T z) := by
  have := h.hold e he
  cases e with
  | cel b' c T => simp only [Fw.Ent.blk, Option.some.injEq] at hb; subst hb; exact ⟨_, _, _, this⟩
  | own v k xs e s =>
    rcases this.2 with ⟨rfl, _⟩ | ⟨g, cap, cur, rfl, _, hh, _⟩
    · cases hb
    · simp only [Fw.Ent.blk, Value.ownBlock, Option.some.injEq] at hb; subst hb; exact ⟨_, _, _, hh⟩
/-- what a round keeps for the iterator: what lay below n0, and the blocks named -/
def KpB (n0 : Nat) (KB : List Nat) (A B : World) : Prop := (∀ k, k < n0 → B.heap[k]? = A.heap[k]?) ∧ ∀ b, b ∈ KB → B.heap[b]? = A.heap[b]?
theorem KpB.trans {n0 : Nat} {KB : List Nat} {A B C : World} (h : KpB n0 KB A B) (k : KpB n0 KB B C) : KpB n0 KB A C := ⟨fun i hi => (k.1 i hi).trans (h.1 i hi), fun b hb => (k.2 b hb).trans (h.2 b hb)⟩
def bodyP {X : Type} (S : Nat → Prop) (W : World) (H : X → List Ent) : Exit → Act → World → Prop
  | .normal, _, W' => ∃ g, HP S W W' (H g)
  | _, _, _ => False
section
variable {P : Program} {Q : Exit → Act → World → Prop} {n : Nat} {l : List (Nat × Value)} {w wl : World} {m0 : Nat}
theorem calls_ofX {f : FuncId} {fn : Func} {c : Code} {args : Array Value} {R : Ending → World → Prop} (hf : P.funcs[f]? = some fn) (hb : fn.body = some c) {m : Nat} (hm : fn.ntmps = m) (ts : List (Nat × Value))
    (hfr : Fr [] m ts ⟨args ++ Array.replicate (m - args.size) undef, []⟩) (h : XC none 5 [] P c (bodyPostM (fen none) 5 P fn R) m ts w) : Calls P f args w R := by
  refine callsIn_wide.1 (callsIn_of_wp_marks (F := Fence.wide) (n := 5) hf hb trivial ?_)
  rw [hm]
  exact h _ hfr
theorem XQ.end0B {fn : Func} {R : Ending → World → Prop} (hr : fn.results = #[]) (hR : R (.returned (.tuple #[])) w) : XQ [] (bodyPost P fn R) .normal n l w := fun a ha => bodyPost_end (v := .tuple #[]) (results_none hr _ _ _) ha.df hR
theorem XQ.ret0B {fn : Func} {R : Ending → World → Prop} (hr : fn.results = #[]) (hR : R (.returned (.tuple #[])) w) : XQ [] (bodyPost P fn R) .ret n l w := fun a ha => bodyPost_ret (v := .tuple #[]) (results_none hr _ _ _) ha.df hR
theorem callsIn_ofX {f : FuncId} {fn : Func} {c : Code} {args : Array Value} {R : Ending → World → Prop} (hf : P.funcs[f]? = some fn) (hb : fn.body = some c) {m : Nat} (hm : fn.ntmps = m) (ts : List (Nat × Value))
    (hfr : Fr [] m ts ⟨args ++ Array.replicate (m - args.size) undef, []⟩) (h : XC none m0 [] P c (bodyPost P fn R) m ts w) : CallsIn (fen none) m0 P f args w R := by
  refine callsIn_of_wp hf hb trivial ?_
  rw [hm]
  exact h _ hfr
theorem Fr_enter (vs : List Value) (m : Nat) (h : vs.length ≤ m) : Fr [] m (Fw.enum 0 vs) ⟨vs.toArray ++ Array.replicate (m - vs.toArray.size) undef, []⟩ := by
  have q := Fw.Fr_enter vs m h
  exact ⟨q.sz, q.df, q.kn⟩
/-- the end behind a range over a function -/
theorem XQ.ret1M {fn : Func} {R : Ending → World → Prop} {v : Value} {D : Nat} (t : Nat) (hr : fn.results = #[.tmp t]) (h1 : look l t = some v) (hK : w.heap[D]? = some (.deferred (some []))) (hR : R (.returned v) (w.putObj D (.deferred none))) : XQ [{ target := .collected D, args := #[] }] (bodyPostM (fen none) 5 P fn R) .ret n l w := fun a ha => by
  show LeavesInM _ _ _ _ _ _ a.defers _ _
  rw [ha.df]
  exact ⟨by simp, .inl ⟨_, _, rfl, run_takeDeferred hK, v, by rw [results_tmp hr, ha.getD h1], hR⟩⟩
/-- two loop variables, each assigned by a region of its own; the body never leaves the loop -/
theorem XC.rangeFunc2 {α X : Type} {g : Operand} {p1 p2 d1 d2 i1 i2 : Nat} {t1 t2 : TypeId} {ps1 ps2 : String} {af1 af2 : Array Edge} {body : Code} {gf : Nat} {lb : Array Value} {w0 : World}
    (hg : ev l g = some (.func (.func gf) #[] lb)) (eg : ∀ args w, (callFunc gf args).run P w = .ok (.enter gf args) w)
    (e1 e2 : α → Value) {S Sp : List α → Prop} {N : Nat} (Hf : List α → X → List Ent) (KB : List Nat)
    (hseq : SeqStopsK (fen none) 4 P gf lb (fun x => #[e1 x, e2 x]) (KpB w0.heap.size KB) S Sp N wl)
    (hKB : ∀ b, b ∈ KB → ∃ c T, ∀ pre x, (Go.Proofs.Ytmjnakhpekbenaa.Fw.Ent.cel b c T) ∈ Hf pre x) (x0 : X) (h0 : HP Tr w0 wl (Hf [] x0))
    (hp1 : p1 < n) (hp2 : p2 < n) (hd1 : d1 < n) (hd2 : d2 < n) (hne : p1 ≠ p2) (hne2 : d1 ≠ p2)
    (hbody : ∀ ll pre x W gx, pre.length < N → OwnB W (Hf pre gx) → XC (some ll) 3 [] P body (bodyP (Out (Hf pre gx)) W (Hf (pre ++ [x]))) n ((d2, e2 x) :: (d1, e1 x) :: (p2, e2 x) :: (p1, e1 x) :: l) W)
    (hdone : ∀ D xs W gx, wl.heap.size ≤ D → S xs → HP Tr w0 W (Hf xs gx) → W.heap[D]? = some (.deferred (some [])) → XQ [{ target := .collected D, args := #[] }] Q .normal n l W) :
    XC none 5 [] P (.rangeFunc g #[p1, p2] (.seq (.region i1 #[{ dst := some d1, op := .assign (.tmp p1), type := t1, pos := ps1, after := af1, guard := none }] false) (.region i2 #[{ dst := some d2, op := .assign (.tmp p2), type := t2, pos := ps2, after := af2, guard := none }] false)) body) Q n l wl := by
  intro a ha
  have hKBlt : ∀ b, b ∈ KB → b < wl.heap.size := fun b hb => by
    obtain ⟨c, T, h⟩ := hKB b hb
    exact Fw.Ent.lt (h0.hold _ (h [] x0)) rfl
  refine wpIn_rangeFunc_ownG (F := fen none) (n := 5) (w0 := wl) rfl (by omega) (gf := gf) (lb := lb) (ha.ev hg) trivial eg hseq (fun h k => h.trans k) ?_ (Below.refl _ _) (fun _ => rfl)
    (fun pre W => ∃ gx, HP Tr w0 W (Hf pre gx)) (fun _ _ _ => False) ?_ (fun _ _ _ _ _ hs _ _ => hs) ⟨x0, h0⟩
    (fun x => (({ tmps := (a.tmps.setIfInBounds p1 (e1 x)).setIfInBounds p2 (e2 x), defers := [] } : Act).put (some d1) (e1 x)).put (some d2) (e2 x)) ?_ ?_ ?_ ?_
  · intro W r o o' hr ho hc _
    refine ⟨fun k hk => ?_, fun b hb => ?_⟩
    · exact World.putObj_heap_other (by have := h0.size; omega)
    · exact World.putObj_heap_other (by have := hKBlt b hb; omega)
  · rintro pre W W' row ⟨gx, h⟩ hgr hr
    exact ⟨gx, HPgrown h hgr fun r e => ⟨by have := (hr r e).1; have := h0.size; omega, (hr r e).2⟩⟩
  · intro ll x W K hK
    have f1 : Fr [] n ((p2, e2 x) :: (p1, e1 x) :: l) ({ tmps := (a.tmps.setIfInBounds p1 (e1 x)).setIfInBounds p2 (e2 x), defers := [] } : Act) := by
      have b0 : Fr [] n l { tmps := a.tmps, defers := [] } := ⟨ha.sz, rfl, ha.kn⟩
      exact (b0.put hp1 (e1 x)).put hp2 (e2 x)
    have hz : ((#[p1, p2].zip #[e1 x, e2 x]).foldl (fun (t : Array Value) (p, v) => t.setIfInBounds p v) a.tmps) = (a.tmps.setIfInBounds p1 (e1 x)).setIfInBounds p2 (e2 x) := by simp
    rw [hz]
    show Code.wpIn (fen (some ll)) 3 P _ _ ({ tmps := (a.tmps.setIfInBounds p1 (e1 x)).setIfInBounds p2 (e2 x), defers := [] } : Act) W
    refine wpIn_seq_k fun K' hK' => ?_
    refine wpIn_region_lit (l := [_]) ?_
    refine wpListIn_plain rfl fun K2 hK2 => ?_
    unfold Oper.wpIn
    rw [semAt_fen rfl]
    refine ⟨fun _ _ => trivial, ?_⟩
    rw [show (execOp _ _).run P W = .ok (.value (e1 x)) W from by
      rw [exec_known f1 (o := { dst := some d1, op := .assign (.tmp p1), type := t1, pos := ps1, after := af1, guard := none }) (by
        have : look ((p2, e2 x) :: (p1, e1 x) :: l) p1 = some (e1 x) := by rw [look_cons_ne (Ne.symm hne), look_cons_eq]
        simp [known, noSel, Op.operands, ev, this])]
      have : look ((p2, e2 x) :: (p1, e1 x) :: l) p1 = some (e1 x) := by rw [look_cons_ne (Ne.symm hne), look_cons_eq]
      simp [execOp, evD, ev, this, Sem.run]]
    rw [Oper.uponIn_value]
    refine hK2 _ _ ?_
    refine hK' _ _ ?_
    refine wpIn_region_lit (l := [_]) ?_
    refine wpListIn_plain rfl fun K3 hK3 => ?_
    unfold Oper.wpIn
    rw [semAt_fen rfl]
    refine ⟨fun _ _ => trivial, ?_⟩
    have f2 := f1.put hd1 (e1 x)
    rw [show (execOp _ _).run P W = .ok (.value (e2 x)) W from by
      rw [exec_known f2 (o := { dst := some d2, op := .assign (.tmp p2), type := t2, pos := ps2, after := af2, guard := none }) (by
        have : look ((d1, e1 x) :: (p2, e2 x) :: (p1, e1 x) :: l) p2 = some (e2 x) := by rw [look_cons_ne hne2, look_cons_eq]
        simp [known, noSel, Op.operands, ev, this])]
      have : look ((d1, e1 x) :: (p2, e2 x) :: (p1, e1 x) :: l) p2 = some (e2 x) := by rw [look_cons_ne hne2, look_cons_eq]
      simp [execOp, evD, ev, this, Sem.run]]
    rw [Oper.uponIn_value]
    exact hK3 _ _ hK
  · rintro ll pre x W ⟨gx, h⟩ hlt
    have hO : OwnB W (Hf pre gx) := ⟨h.hold, h.apart⟩
    have f1 : Fr [] n ((d2, e2 x) :: (d1, e1 x) :: (p2, e2 x) :: (p1, e1 x) :: l) ((({ tmps := (a.tmps.setIfInBounds p1 (e1 x)).setIfInBounds p2 (e2 x), defers := [] } : Act).put (some d1) (e1 x)).put (some d2) (e2 x)) := by
      have b0 : Fr [] n l { tmps := a.tmps, defers := [] } := ⟨ha.sz, rfl, ha.kn⟩
      exact (((b0.put hp1 (e1 x)).put hp2 (e2 x)).put hd1 (e1 x)).put hd2 (e2 x)
    refine wpIn_mono (hbody ll pre x W gx hlt hO _ f1) fun e a' W' hq => ?_
    cases e with
    | normal =>
      obtain ⟨gx', hq⟩ := hq
      refine ⟨⟨hq.size, fun k o _ ho hc => ?_⟩, ⟨fun k hk => ?_, fun b hb => ?_⟩, gx', ?_⟩
      · rw [hq.keep k (Array.getElem?_eq_some_iff.1 ho).1 fun e he hbk => ?_]; exact ho
        obtain ⟨c, T, z, hcc⟩ := HPcells h he hbk
        rw [hcc] at ho; cases ho; cases hc
      · exact hq.keep k (by have := h.size; omega) fun e he hbk => h.fresh e he k hbk hk trivial
      · obtain ⟨c, T, hm⟩ := hKB b hb
        have q1 : W.heap[b]? = some (.cells c T (0, 0)) := h.hold _ (hm pre gx)
        have q2 : W'.heap[b]? = some (.cells c T (0, 0)) := hq.hold _ (hm (pre ++ [x]) gx')
        rw [q1, q2]
      · have := Go.Proofs.Ytmjnakhpekbenaa.Fw.HP.exch (A := []) (B := Hf pre gx) h hq
        simpa using this
    | exit id => exact hq.elim
    | goto t => exact hq.elim
    | ret => exact hq.elim
    | panic c => exact hq.elim
    | outgrown => exact hq.elim
  · rintro D xs W hD hS ⟨gx, h⟩ hK
    have := hdone D xs W gx hD hS h hK
    exact this _ ⟨ha.sz, by rw [ha.df], ha.kn⟩
  · rintro D c pre W _ _ h _
    exact h.elim
end
end Fi
end Fw
end Go.Proofs.Ytmjnakhpekbenaa
