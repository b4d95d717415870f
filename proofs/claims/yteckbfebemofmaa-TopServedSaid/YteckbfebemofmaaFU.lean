/- Rows of one's own that are written into, cut and cleared. -/
import Derived.Test.YteckbfebemofmaaFV
import Derived.Laws.CopyRow
import Derived.Lib.SliceRun
set_option linter.unusedVariables false
set_option linter.unusedSimpArgs false
namespace Go.Proofs.Yteckbfebemofmaa
open Go.RowKit
namespace Fw
section
variable {P : Program} {ρ : Operand → Value} {o : Oper} {ops : Array Oper} {Q : Exit → Act → World → Prop} {rest : List Oper} {n : Nat} {l : List (Nat × Value)} {w w' w0 : World} {S : Nat → Prop} {H H2 : List Ent}
theorem HP.start1 {e : Ent} (h : e.holds w) : HP (fun b => e.blk ≠ some b) w w [e] :=
  ⟨rfl, rfl, rfl, Nat.le_refl _, fun _ _ _ => rfl, fun x hx => by simp at hx; subst hx; exact h, fun x hx b hb _ hn => by simp at hx; subst hx; exact hn hb, by simp⟩
theorem HP.changed (h : HP S w0 w H) (i : Nat) {e e' : Ent} (hi : H[i]? = some e) (h2 : HP (fun b => e.blk ≠ some b) w w' [e']) (hb : ∀ b, e'.blk = some b → e.blk = some b ∨ w.heap.size ≤ b) : HP S w0 w' (H.set i e') :=
  h.change i hi h2.os h2.tape h2.output h2.size (fun k hk hne => h2.keep k hk hne) (h2.hold _ (by simp)) hb
theorem HP.ownToCel (h : HP S w0 w H) (i : Nat) {g n cap e s : Nat} {xs : List Value} (hi : H[i]? = some (.own (.slice (some ⟨g, 0, none⟩) n cap) n xs e s)) :
    ∃ cur : Array Value, HP S w0 w (H.set i (.cel g cur e)) ∧ n ≤ cap ∧ cap ≤ maxLen ∧ cur.size = cap * s ∧ cur.toList.take (n * s) = xs := by
  have q : w.ownsRow 0 e s (.slice (some ⟨g, 0, none⟩) n cap) n xs := h.get i hi
  rcases q.2 with ⟨h0, _⟩ | ⟨g', cap', cur, hv, _, hg, hc, hm, hs, hx⟩
  · cases h0
  · cases hv
    exact ⟨cur, h.setSame i hi hg rfl, hc, hm, hs, hx⟩
theorem HP.celToOwn (h : HP S w0 w H) (i : Nat) {g e s cap k : Nat} {cur : Array Value} (hi : H[i]? = some (.cel g cur e)) (hk : k ≤ cap) (hm : cap ≤ maxLen) (hs : cur.size = cap * s) :
    HP S w0 w (H.set i (.own (.slice (some ⟨g, 0, none⟩) k cap) k (cur.toList.take (k * s)) e s)) :=
  h.setSame i hi ⟨by
    have : k * s ≤ cap * s := Nat.mul_le_mul_right _ hk
    simp; omega, .inr ⟨g, cap, cur, rfl, Nat.zero_le _, h.get i hi, hk, hm, hs, rfl⟩⟩ rfl
theorem run_eqGuard_any (op : BinOp) (t : TypeId) (x y : Operand) (p q : Option Addr) (n c n' c' : Nat) (hm : P.eqGuardType P.depth t = false) : (eqGuard op t x y (.slice p n c) (.slice q n' c')).run P w = .ok () w := by
  cases op <;> simp [eqGuard, run_program, hm]
theorem x_eqlNil {t e u : TypeId} {x y : Operand} {a : Option Addr} {n c n' c' : Nat} {b : Bool} (ho : o.op = .binOp .eql t x y u) (hx : ρ x = .slice a n c) (hy : ρ y = .slice none n' c') (ht : P.underlying t = some (.slice e)) (hm : P.eqGuardType P.depth t = false) (hb : a.isNone = b) :
    (execOp ρ o).run P w = .ok (.value (.bool b)) w := by
  unfold execOp; rw [ho]; simp [hx, hy, run_eqGuard_any _ _ _ _ _ _ _ _ _ _ hm, Lib.run_eql_slice_nil w t e a n c n' c' ht, hb]
theorem x_neqNil {t e u : TypeId} {x y : Operand} {a : Option Addr} {n c n' c' : Nat} {b : Bool} (ho : o.op = .binOp .neq t x y u) (hx : ρ x = .slice a n c) (hy : ρ y = .slice none n' c') (ht : P.underlying t = some (.slice e)) (hm : P.eqGuardType P.depth t = false) (hb : (!a.isNone) = b) :
    (execOp ρ o).run P w = .ok (.value (.bool b)) w := by
  have hq : (binOp .neq t (.slice a n c) (.slice none n' c')).run P w = .ok (.bool (!a.isNone)) w := by
    simp only [binOp]
    simp [Op.equal, Op.maxDepth, Lib.run_equalIn_slice_nil w 9999 t e a n c n' c' ht]
  unfold execOp; rw [ho]; simp [hx, hy, run_eqGuard_any _ _ _ _ _ _ _ _ _ _ hm, hq, ← hb]
/-- a slice from an index on -/
theorem x_sliceL {t e s b off n cap p m k : Nat} {x lo : Operand} {I : Int} (i : Nat) (ho : o.op = .slice t x (some lo) none none) (hx : ρ x = .slice (some ⟨b, off, none⟩) n cap) (hy : ρ lo = .int .i64 I) (hu : P.underlying t = some (.slice e)) (hI : I = (i : Int)) (hle : i ≤ n) (hnc : n ≤ cap) (hs : (P.info? e).map (·.size) = some s) (hp : off + i * s = p) (hm : n - i = m) (hk : cap - i = k) (hlt : i < cap) :
    (execOp ρ o).run P w = .ok (.value (.slice (some ⟨b, p, none⟩) m k)) w := by
  unfold execOp; rw [ho]
  subst hI
  obtain ⟨inf, hi, rfl⟩ := Option.map_eq_some_iff.1 hs
  have hz : (sizeOf e).run P w = .ok inf.size w := by simp [sizeOf, typeInfo, hi]
  have hadd : (⟨b, off, none⟩ : Addr).add (i * inf.size) = ⟨b, p, none⟩ := by unfold Addr.add; split <;> simp_all
  simp [hx, hy, Instr.sliceAt, Instr.slice, run_underlying hu, Instr.sliceBounds, Instr.sliceBound, asIntOf, hle, hz, hadd, hnc, hm, hk]
  try omega
/-- clear, of a part of a block -/
theorem WL.clear {o : Oper} {t e : TypeId} {inf : TypeInfo} {z : Value} {sz : Nat} {x : Operand} {g off m cp : Nat} {c : Array Value} (i : Nat) (hH : HP S w0 w H) (hd : o.dst = none) (hw : wants ops l o = some true)
    (ho : o.op = .call { callee := .builtin .clear, args := #[x], argTypes := #[t] }) (hx : ev l x = some (.slice (some ⟨g, off, none⟩) m cp))
    (ht : P.underlying t = some (.slice e)) (hi' : P.info? e = some inf) (hz : inf.zero = some z) (hzs : z.cells.size = sz) (h1 : ∀ u ∈ z.cells.toList, u.oneCell' = true) (hi : H[i]? = some (.cel g c e)) (hfit : off + m * sz ≤ c.size)
    (h : ∀ (c' : Array Value) w2, c'.size = c.size → c'.toList.take off = c.toList.take off → HP S w0 w2 (H.set i (.cel g c' e)) → WL P ops Q rest n l w2) : WL P ops Q (o :: rest) n l w := by
  intro a ha
  refine wpList_step fun K hK => ?_
  rw [if_pos (wants_spec ha hw)]
  unfold Oper.wp
  have hzv : ∀ w, (zeroValue e).run P w = .ok z w := fun w => by simp [zeroValue, typeInfo, hi', hz]
  cases m with
  | zero =>
    have hr : (execOp a.eval o).run P w = .ok (.value (.tuple #[])) w := by
      unfold execOp; rw [ho]; simp [resolve, invoke, builtin, ha.ev hx, Builtin.clear_, run_underlying ht]
    rw [hr, Oper.upon_value, hd]
    refine hK _ _ (h c w rfl rfl ?_ _ ha)
    exact hH.setSame i hi (hH.get i hi) rfl
  | succ m =>
    have hzl : (Builtin.zeroCells z.cells (m + 1)).toList.length = (m + 1) * sz := by rw [← hzs]; simp [Builtin.zeroCells]
    have hst := run_storeCells_at P g off e (Builtin.zeroCells z.cells (m + 1)).toList 0 c w (hH.get i hi) (by rw [hzl]; simpa using hfit) (by
      intro v hv
      obtain ⟨j, hj, rfl⟩ : ∃ j, j < (m + 1) * z.cells.size ∧ z.cells[j % z.cells.size]! = v := by simpa [Builtin.zeroCells] using hv
      have h0 : 0 < z.cells.size := by
        rcases Nat.eq_zero_or_pos z.cells.size with q | q
        · rw [q] at hj; omega
        · exact q
      rw [getElem!_pos z.cells _ (Nat.mod_lt j h0)]
      exact h1 _ (by simp))
    simp only [Nat.add_zero] at hst
    have hr : (execOp a.eval o).run P w = .ok (.value (.tuple #[])) (w.setRow g (c.toList.take off ++ (Builtin.zeroCells z.cells (m + 1)).toList ++ c.toList.drop (off + (Builtin.zeroCells z.cells (m + 1)).toList.length)).toArray) := by
      unfold execOp; rw [ho]; simp [resolve, invoke, builtin, ha.ev hx, Builtin.clear_, run_underlying ht, hzv, hst]
    obtain ⟨X, hX⟩ : ∃ X : Array Value, X = (c.toList.take off ++ (Builtin.zeroCells z.cells (m + 1)).toList ++ c.toList.drop (off + (Builtin.zeroCells z.cells (m + 1)).toList.length)).toArray := ⟨_, rfl⟩
    rw [← hX] at hr
    rw [hr, Oper.upon_value, hd]
    refine hK _ _ (h X _ ?_ ?_ ?_ _ ha)
    · have hzl2 : (Builtin.zeroCells z.cells (m + 1)).size = (m + 1) * sz := by rw [← Array.length_toList]; exact hzl
      rw [hX]; simp only [List.size_toArray, List.length_append, List.length_take, List.length_drop, Array.length_toList]; omega
    · rw [hX, List.append_assoc, List.take_append_of_le_length (by simp; omega), List.take_take]; simp
    · exact hH.change i hi rfl rfl rfl (by simp) (fun k hk hne => setRow_other w g k _ (fun e => hne (by rw [e]; rfl))) (setRow_heap w g c _ e (0, 0) (hH.get i hi)) (fun b hb => .inl hb)
end
end Fw
end Go.Proofs.Yteckbfebemofmaa
