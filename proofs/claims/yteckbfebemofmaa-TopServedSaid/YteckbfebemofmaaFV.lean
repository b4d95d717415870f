/- More operations: structs compared, rows that grow out of what came in. -/
import Derived.Test.YteckbfebemofmaaFZ
import Derived.Laws.StructEq
import Derived.Laws.AppendOwnNone
set_option linter.unusedVariables false
set_option linter.unusedSimpArgs false
namespace Go.Proofs.Yteckbfebemofmaa
open Go.RowKit
namespace Fw
section
variable {P : Program} {ρ : Operand → Value} {o : Oper} {ops : Array Oper} {Q : Exit → Act → World → Prop} {rest : List Oper} {n : Nat} {l : List (Nat × Value)} {w w0 : World} {S : Nat → Prop} {H H2 : List Ent}
theorem x_neqA {t u : TypeId} {x y : Operand} {xs ys : Array Value} {b b' : Bool} (ho : o.op = .binOp .neq t x y u) (hx : ρ x = .agg xs) (hy : ρ y = .agg ys) (hm : P.eqGuardType P.depth t = false) (he : (Op.equalIn 10000 t (.agg xs) (.agg ys)).run P w = .ok b w) (hb : (!b) = b') :
    (execOp ρ o).run P w = .ok (.value (.bool b')) w := by
  unfold execOp; rw [ho]; simp [hx, hy, run_eqGuard_agg _ _ _ _ _ _ _ hm, run_neq_struct, he, hb]
theorem x_eqlA {t u : TypeId} {x y : Operand} {xs ys : Array Value} {b : Bool} (ho : o.op = .binOp .eql t x y u) (hx : ρ x = .agg xs) (hy : ρ y = .agg ys) (hm : P.eqGuardType P.depth t = false) (he : (Op.equalIn 10000 t (.agg xs) (.agg ys)).run P w = .ok b w) :
    (execOp ρ o).run P w = .ok (.value (.bool b)) w := by
  unfold execOp; rw [ho]; simp [hx, hy, run_eqGuard_agg _ _ _ _ _ _ _ hm, run_eql_struct, he]
theorem HP.setSame (h : HP S w0 w H) (i : Nat) {e e' : Ent} (hi : H[i]? = some e) (hold : e'.holds w) (hb : e'.blk = e.blk) : HP S w0 w (H.set i e') :=
  h.change i hi rfl rfl rfl (Nat.le_refl _) (fun _ _ _ => rfl) hold (fun b q => .inl (by rw [← hb]; exact q))
/-- a slice is appended to a row that grows; the slice came in, or lies in the list -/
theorem WL.appendSrc {o : Oper} {t e : TypeId} {inf : TypeInfo} {z : Value} {sz by' : Nat} {x y : Operand} {v : Value} {k m : Nat} {xs : List Value} (news : List Value) {p : Option Addr} {cp : Nat} (i : Nat) (hH : HP S w0 w H) (d : Nat) (hd : o.dst = some d) (hn : d < n) (hw : wants ops l o = some true)
    (ho : o.op = .call { callee := .builtin .append, args := #[x, y], argTypes := #[t, t] }) (hx : ev l x = some v) (hy : ev l y = some (.slice p m cp))
    (ht : P.underlying t = some (.slice e)) (hi' : P.info? e = some inf) (hz : inf.zero = some z) (hsz : inf.size = sz) (hby : inf.bytes = by') (hzs : z.cells.size = sz) (h0 : 0 < sz)
    (hi : H[i]? = some (.own v k xs e sz)) (hsrc : (∃ a, p = some a ∧ ∀ q u, news[q]? = some u → w.cell? (a.add q) = some u) ∨ (p = none ∧ m = 0 ∧ cp = 0)) (hl : news.length = m * sz) (h1 : ∀ u ∈ news, u.oneCell' = true) (h63 : k + m ≤ maxLen) (hb : (k + m) * by' ≤ 140737488355328)
    (h : ∀ v' w2, (v' = .slice none 0 0 ↔ v = .slice none 0 0 ∧ m = 0) → HP S w0 w2 (H.set i (.own v' (k + m) (xs ++ news) e sz)) → WL P ops Q rest n ((d, v') :: l) w2) : WL P ops Q (o :: rest) n l w := by
  intro a ha
  refine wpList_step fun K hK => ?_
  rw [if_pos (wants_spec ha hw)]
  unfold Oper.wp
  rcases hsrc with ⟨ad, rfl, hc⟩ | ⟨rfl, rfl, rfl⟩
  · obtain ⟨v', w2, hr, g1, g2, g3, g4⟩ := append_ent (P := P) w t o.type e inf z sz by' ht hi' hz hsz hby hzs h0 v k xs (hH.get i hi) ad m cp news hl hc h1 h63 hb
    rw [x_append (P := P) ho (ha.ev hx) (ha.ev hy) hr, Oper.upon_value, hd]
    refine hK _ _ (h v' w2 g3 ?_ _ (ha.put hn v'))
    exact hH.change i hi g2.os g2.tape g2.output g2.size (fun q hq hne => g2.block q hq fun e => hne e.symm) ⟨g1.1, g1.2⟩ g4
  · have hnil : news = [] := List.length_eq_zero_iff.1 (by rw [hl]; simp)
    subst hnil
    have hr := run_append_owned_none (P := P) (w := w) 0 t o.type e inf sz ht hi' v k xs (hH.get i hi)
    rw [x_append (P := P) ho (ha.ev hx) (ha.ev hy) hr, Oper.upon_value, hd]
    refine hK _ _ (h v w (by simp) ?_ _ (ha.put hn v))
    exact hH.setSame i hi (by have q := hH.get i hi; simpa using q) rfl
/-- make: a row of its own, with room -/
theorem WL.makeOwn {o : Oper} {t e : TypeId} {inf : TypeInfo} {z : Value} {sz by' cap : Nat} {x y : Operand} {C : Int} (hH : HP S w0 w H) (d : Nat) (hd : o.dst = some d) (hn : d < n) (hw : wants ops l o = some true)
    (ho : o.op = .makeSlice t x y) (hx : ev l x = some (.int .i64 0)) (hy : ev l y = some (.int .i64 C)) (hC : C = (cap : Int))
    (ht : P.underlying t = some (.slice e)) (hi' : P.info? e = some inf) (hz : inf.zero = some z) (hsz : inf.size = sz) (hby : inf.bytes = by') (hzs : z.cells.size = sz) (hb : by' * cap ≤ 281474976710656) (h63 : cap ≤ maxLen)
    (h : ∀ g w2, w0.heap.size ≤ g → HP S w0 w2 (H ++ [.own (.slice (some ⟨g, 0, none⟩) 0 cap) 0 [] e sz]) → WL P ops Q rest n ((d, .slice (some ⟨g, 0, none⟩) 0 cap) :: l) w2) : WL P ops Q (o :: rest) n l w := by
  intro a ha
  refine wpList_step fun K hK => ?_
  rw [if_pos (wants_spec ha hw)]
  unfold Oper.wp
  subst hC
  have hmx : cap ≤ 9223372036854775807 := h63
  have hr := run_make (P := P) w t e inf z ht hi' hz .i64 .i64 0 (cap : Int) (Int.le_refl 0) (by omega) (by rw [hby]; omega) (by omega)
  rw [x_makeR (P := P) ho (ha.ev hx) (ha.ev hy) hr, Oper.upon_value, hd]
  simp only [Int.toNat_natCast, Int.toNat_zero]
  refine hK _ _ (h _ _ hH.size ?_ _ (ha.put hn _))
  have q := HP.alloc hH (madeCells z.cells (cap * inf.size)) e
  have q2 := q.setSame H.length (e := .cel w.heap.size (madeCells z.cells (cap * inf.size)) e) (e' := .own (.slice (some ⟨w.heap.size, 0, none⟩) 0 cap) 0 [] e sz) (by simp)
    (World.ownsRow_made (size := sz) w _ cap (Nat.zero_le _) h63 (by rw [← hsz]; simp [madeCells])) rfl
  simpa using q2
/-- an empty row of its own -/
theorem HP.ownNil (h : HP S w0 w H) (e s : Nat) : HP S w0 w (H ++ [.own (.slice none 0 0) 0 [] e s]) := by
  refine ⟨h.os, h.tape, h.output, h.size, h.keep, ?_, ?_, ?_⟩
  · intro x hx
    rcases List.mem_append.1 hx with hx | hx
    · exact h.hold x hx
    · simp at hx; subst hx; exact World.ownsRow_nil _ _ _ _
  · intro x hx b hb'
    rcases List.mem_append.1 hx with hx | hx
    · exact h.fresh x hx b hb'
    · simp at hx; subst hx; simp [Ent.blk, Value.ownBlock] at hb'
  · refine List.pairwise_append.2 ⟨h.apart, by simp, fun x hx y hy b hb1 hb2 => ?_⟩
    simp at hy; subst hy; simp [Ent.blk, Value.ownBlock] at hb2
end
end Fw
end Go.Proofs.Yteckbfebemofmaa
