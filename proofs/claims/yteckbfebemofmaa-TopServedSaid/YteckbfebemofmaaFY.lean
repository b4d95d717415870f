/- The operations on memory, and rows of numbers. -/
import Derived.Test.YteckbfebemofmaaFX
set_option linter.unusedVariables false
set_option linter.unusedSimpArgs false
namespace Go.Proofs.Yteckbfebemofmaa
open Go.RowKit
namespace Fw
abbrev vI (x : Int) : Value := .int .i64 x
abbrev vS (g n c : Nat) : Value := .slice (some ⟨g, 0, none⟩) n c
abbrev vP (b o : Nat) : Value := .pointer (some ⟨b, o, none⟩)
def enum : Nat → List Value → List (Nat × Value)
  | _, [] => []
  | k, v :: r => (k, v) :: enum (k + 1) r
theorem look_enum : ∀ (vs : List Value) (k t : Nat) (v : Value), look (enum k vs) t = some v → k ≤ t ∧ vs[t - k]? = some v
  | [], _, _, _, h => by cases h
  | u :: r, k, t, v, h => by
    by_cases e : k = t
    · subst e
      have h' : look ((k, u) :: enum (k + 1) r) k = some v := h
      rw [look_cons_eq] at h'
      cases h'
      exact ⟨Nat.le_refl _, by simp⟩
    · have h' : look ((k, u) :: enum (k + 1) r) t = some v := h
      rw [look_cons_ne e] at h'
      obtain ⟨h1, h2⟩ := look_enum r (k + 1) t v h'
      refine ⟨by omega, ?_⟩
      rw [show t - k = (t - (k + 1)) + 1 by omega]
      simpa using h2
theorem Fr_enter (vs : List Value) (m : Nat) (h : vs.length ≤ m) : Fr m (enum 0 vs) ⟨vs.toArray ++ Array.replicate (m - vs.toArray.size) undef, []⟩ := by
  refine ⟨by simp; omega, rfl, fun t v ht => ?_⟩
  obtain ⟨-, h2⟩ := look_enum vs 0 t v ht
  have hlt : t < vs.length := by have := (List.getElem?_eq_some_iff.1 h2).1; simpa using this
  rw [Array.getElem?_append_left (by simpa using hlt)]
  simpa using h2
def upI (f : Nat → Int) (i : Nat) (v : Int) : Nat → Int := fun j => if j = i then v else f j
/-- a row of n numbers -/
def irow (n : Nat) (f : Nat → Int) : Array Value := (Array.range n).map fun i => .int .i64 (f i)
theorem size_irow (n : Nat) (f : Nat → Int) : (irow n f).size = n := by simp [irow]
theorem irow_get {n j : Nat} {f : Nat → Int} {v : Int} (hj : j < n) (hv : f j = v) : (irow n f)[j]? = some (.int .i64 v) := by simp [irow, hj, hv]
theorem irow_set (n j : Nat) (f : Nat → Int) (v : Int) : (irow n f).setIfInBounds j (.int .i64 v) = irow n (upI f j v) := by
  apply Array.ext
  · simp [irow]
  · intro i h1 h2
    simp only [irow, upI]
    by_cases e : j = i
    · subst e
      simp [Array.getElem_setIfInBounds]
    · have e2 : ¬ i = j := fun q => e q.symm
      rw [Array.getElem_setIfInBounds_ne (by simpa [irow] using h2) e]
      simp [e2]
theorem irow_made (n : Nat) : madeCells #[.int .i64 0] (n * 1) = irow n (fun _ => 0) := by
  simp [madeCells, irow, Nat.mod_one]
theorem irow_congr {n : Nat} {f g : Nat → Int} (h : ∀ i, i < n → f i = g i) : irow n f = irow n g := by
  apply Array.ext
  · simp [irow]
  · intro i h1 h2
    simp only [irow] at h1 ⊢
    simp only [Array.size_map, Array.size_range] at h1
    simp [h i h1]
section
variable {P : Program} {ops : Array Oper} {Q : Exit → Act → World → Prop} {rest : List Oper} {n : Nat} {l : List (Nat × Value)} {w w0 : World} {S : Nat → Prop} {H H2 : List Ent}
theorem WS.nilQ (h : WQ Q .normal n l w) : WS P ops w (fun a' => Q .normal a' w) [] n l := fun a ha => wpStill_nil (h a ha)
theorem WS.nilL {tl : List Oper} (h : WL P ops Q tl n l w) : WS P ops w (fun a' => wpList P ops Q tl a' w) [] n l := fun a ha => wpStill_nil (h a ha)
theorem HP.range (h : HP S w0 w H) (i : Nat) {b off : Nat} {c : Array Value} {T : TypeId} {cs : List Value} (hi : H[i]? = some (.cel b c T)) (hc : (c.toList.drop off).take cs.length = cs) : w.rangeAt b off cs := fun j v hv => by
  refine h.cell i hi ?_
  rw [← hc, List.getElem?_take] at hv
  split at hv
  · simpa using hv
  · cases hv
theorem HP.oldRange (h : HP S w0 w H) {b off : Nat} {cs : List Value} (hS : S b) (hc : w0.rangeAt b off cs) : w.rangeAt b off cs := fun j v hv => h.old (a := ⟨b, off + j, none⟩) hS (hc j v hv)
theorem HP.loadRow (h : HP S w0 w H) (i : Nat) {b : Nat} {c : Array Value} {T ty : TypeId} {d : TypeDesc} (hi : H[i]? = some (.cel b c T)) (hu : P.underlying ty = some d) (hd : d.isRow = true) (hs : (P.info? ty).map (·.size) = some c.size) :
    (loadVar ty ⟨b, 0, none⟩).run P w = .ok (.agg c) w := by
  have := run_loadVar_mid (P := P) w b 0 ty c.toList d (h.range i hi (by rw [List.drop_zero]; exact List.take_of_length_le (by simp))) hu hd (by simpa using hs)
  simpa using this
theorem WL.alloc {o : Oper} {c : Array Value} {T : TypeId} (hH : HP S w0 w H) (d : Nat) (hd : o.dst = some d) (hn : d < n) (hw : wants ops l o = some true) (hk : known l o = true) (V : Nat → Value)
    (hr : (execOp (evD l) o).run P w = .ok (.value (V w.heap.size)) (w.alloc (.cells c T))) (h : ∀ b w2, w0.heap.size ≤ b ∧ HP S w0 w2 (H ++ [.cel b c T]) → WL P ops Q rest n ((d, V b) :: l) w2) : WL P ops Q (o :: rest) n l w :=
  WL.val d hd hn hw hk hr (h _ _ ⟨hH.size, hH.alloc c T⟩)
theorem WL.store {o : Oper} {t : TypeId} {x y : Operand} {b off : Nat} {c c' : Array Value} {T : TypeId} {v : Value} (i : Nat) (hH : HP S w0 w H) (ho : o.op = .store t x y) (hd : o.dst = none) (hw : wants ops l o = some true)
    (hi : H[i]? = some (.cel b c T)) (hx : ev l x = some (.pointer (some ⟨b, off, none⟩))) (hy : ev l y = some v) (hs : (P.info? t).map (·.size) = some 1) (h1 : v.oneCell' = true) (hlt : off < c.size) (hc : c.setIfInBounds off v = c') (h2 : H.set i (.cel b c' T) = H2)
    (h : ∀ w2, HP S w0 w2 H2 → WL P ops Q rest n l w2) : WL P ops Q (o :: rest) n l w := by
  intro a ha
  refine wpList_step fun K hK => ?_
  rw [if_pos (wants_spec ha hw)]
  unfold Oper.wp
  rw [x_store (P := P) ho (ha.ev hx) (ha.ev hy) hs h1 (hH.cell i hi (Array.getElem?_eq_getElem hlt)) (hH.free i hi), Oper.upon_skip, hd]
  refine hK _ _ (h _ ?_ _ ha)
  rw [← h2, ← hc]
  exact hH.set i hi
theorem WL.storeS {o : Oper} {t : TypeId} {x y : Operand} {b off : Nat} {c c' cells : Array Value} {T : TypeId} (i : Nat) (hH : HP S w0 w H) (ho : o.op = .store t x y) (hd : o.dst = none) (hw : wants ops l o = some true)
    (hi : H[i]? = some (.cel b c T)) (hx : ev l x = some (.pointer (some ⟨b, off, none⟩))) (hy : ev l y = some (.agg cells)) (hs : (P.info? t).map (·.size) = some cells.size) (h1 : cells.toList.all (·.oneCell') = true) (hlt : off + cells.size ≤ c.size)
    (hc : cells.toList.zipIdx.foldl (fun (c : Array Value) (p : Value × Nat) => c.setIfInBounds (off + p.2) p.1) c = c') (h2 : H.set i (.cel b c' T) = H2)
    (h : ∀ w2, HP S w0 w2 H2 → WL P ops Q rest n l w2) : WL P ops Q (o :: rest) n l w := by
  intro a ha
  refine wpList_step fun K hK => ?_
  rw [if_pos (wants_spec ha hw)]
  unfold Oper.wp
  rw [x_storeS (P := P) ho (ha.ev hx) (ha.ev hy) hs h1 (fun j hj => ⟨by rw [hH.cell i hi (Array.getElem?_eq_getElem (show off + j < c.size by omega))]; rfl, hH.free i hi⟩), Oper.upon_skip, hd]
  refine hK _ _ (h _ ?_ _ ha)
  rw [← h2, ← hc]
  exact HP.setCells i cells.toList hH hi
/-- one element is appended to a row that grows; the element lies in a block of its own, the last of the list -/
theorem WL.append {o : Oper} {t e : TypeId} {inf : TypeInfo} {z : Value} {sz by' : Nat} {x y : Operand} {v : Value} {k m : Nat} {xs news : List Value} {bn cp : Nat} {cn : Array Value} (i j : Nat) (hH : HP S w0 w H) (d : Nat) (hd : o.dst = some d) (hn : d < n) (hw : wants ops l o = some true)
    (ho : o.op = .call { callee := .builtin .append, args := #[x, y], argTypes := #[t, t] }) (hx : ev l x = some v) (hy : ev l y = some (.slice (some ⟨bn, 0, none⟩) m cp))
    (ht : P.underlying t = some (.slice e)) (hi' : P.info? e = some inf) (hz : inf.zero = some z) (hsz : inf.size = sz) (hby : inf.bytes = by') (hzs : z.cells.size = sz) (h0 : 0 < sz)
    (hi : H[i]? = some (.own v k xs e sz)) (hj : H[j]? = some (.cel bn cn e)) (hnews : cn.toList.take news.length = news) (hl : news.length = m * sz) (h1 : ∀ u ∈ news, u.oneCell' = true) (h63 : k + m ≤ maxLen) (hb : (k + m) * by' ≤ 140737488355328)
    (h : ∀ v' w2, (v' = .slice none 0 0 ↔ v = .slice none 0 0 ∧ m = 0) → HP S w0 w2 (H.set i (.own v' (k + m) (xs ++ news) e sz)) → WL P ops Q rest n ((d, v') :: l) w2) : WL P ops Q (o :: rest) n l w := by
  intro a ha
  refine wpList_step fun K hK => ?_
  rw [if_pos (wants_spec ha hw)]
  obtain ⟨v', w2, hr, g1, g2, g3, g4⟩ := append_ent (P := P) w t o.type e inf z sz by' ht hi' hz hsz hby hzs h0 v k xs (hH.get i hi) ⟨bn, 0, none⟩ m cp news hl (fun q u hu => by
    rw [Addr.add_mid]
    exact hH.range j hj (by simpa using hnews) q u hu) h1 h63 hb
  unfold Oper.wp
  rw [x_append (P := P) ho (ha.ev hx) (ha.ev hy) hr, Oper.upon_value, hd]
  refine hK _ _ (h v' w2 g3 ?_ _ (ha.put hn v'))
  exact hH.change i hi g2.os g2.tape g2.output g2.size (fun q hq hne => g2.block q hq fun e => hne e.symm) ⟨g1.1, g1.2⟩ g4
end
end Fw
end Go.Proofs.Yteckbfebemofmaa
