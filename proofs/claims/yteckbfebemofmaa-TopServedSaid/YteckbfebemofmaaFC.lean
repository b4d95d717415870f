/- Slices that are cut, copied, enlarged by zero values: of elements of any size. -/
import Derived.Test.YteckbfebemofmaaFE
import Derived.Test.YteckbfebemofmaaFU
import Derived.Laws.CopyRow
import Derived.Lib.AppendZerosOnto
import Derived.Lib.Overlaps
import Derived.Laws.Externs
set_option linter.unusedVariables false
set_option linter.unusedSimpArgs false
namespace Go.Proofs.Yteckbfebemofmaa
open Go.RowKit
namespace Fw
section
variable {P : Program} {ops : Array Oper} {Q : Exit → Act → World → Prop} {rest : List Oper} {n : Nat} {l : List (Nat × Value)} {w w0 : World} {S : Nat → Prop} {H H2 : List Ent}
theorem x_sliceAny {t e s m cap : Nat} {a : Option Addr} {I : Int} (i : Nat) (w : World) (hu : P.underlying t = some (.slice e)) (hs : (P.info? e).map (·.size) = some s) (hI : I = (i : Int)) (hle : i ≤ m) (hmc : m ≤ cap) :
    ∃ v, ∀ {ρ : Operand → Value} {o : Oper} {x lo : Operand}, o.op = .slice t x (some lo) none none → ρ x = .slice a m cap → ρ lo = .int .i64 I → (execOp ρ o).run P w = .ok (.value v) w := by
  subst hI
  obtain ⟨inf, hi, rfl⟩ := Option.map_eq_some_iff.1 hs
  have hz : (sizeOf e).run P w = .ok inf.size w := by simp [sizeOf, typeInfo, hi]
  refine ⟨.slice (if cap = i then a else a.map (·.add (i * inf.size))) (m - i) (cap - i), fun ho hx hy => ?_⟩
  unfold execOp; rw [ho]
  simp [hx, hy, Instr.sliceAt, Instr.slice, run_underlying hu, Instr.sliceBounds, Instr.sliceBound, asIntOf, hle, hz, hmc]
theorem run_copy_rows (w : World) (dT sT ty elem sz : Nat) (g o dLen dCap : Nat) (a : Addr) (sLen sCap : Nat) (cur : Array Value) (t : TypeId) (cs : List Value)
    (hu : P.underlying dT = some (.slice elem)) (hs : (P.info? elem).map (·.size) = some sz)
    (hg : w.heap[g]? = some (.cells cur t (0, 0))) (hn : cs.length = Nat.min sLen dLen * sz)
    (hsrc : ∀ j v, cs[j]? = some v → w.cell? (a.add j) = some v) (hfit : o + cs.length ≤ cur.size) (h1 : ∀ v ∈ cs, v.oneCell' = true) :
    (Builtin.copy_ #[dT, sT] ty #[.slice (some ⟨g, o, none⟩) dLen dCap, .slice (some a) sLen sCap]).run P w =
      .ok (goInt (Nat.min sLen dLen)) (w.setRow g (cur.toList.take o ++ cs ++ cur.toList.drop (o + cs.length)).toArray) := by
  have hl := run_loadCells_list (P := P) w a cs hsrc
  have hst := run_storeCells_at P g o t cs 0 cur w hg (by simpa using hfit) h1
  obtain ⟨i, hq, rfl⟩ := Option.map_eq_some_iff.1 hs
  simp [Builtin.copy_, run_underlying hu, Builtin.lenOf, Builtin.firstCells, sizeOf, typeInfo, hq, ← hn, hl, hst]
/-- a copy into a block of the list -/
theorem WL.copyCel {o : Oper} {t t2 e sz : Nat} {x y : Operand} {g off m cp ms cps : Nat} {a : Addr} {cur : Array Value} {T : TypeId} (i : Nat) (hH : HP S w0 w H) (cs : List Value) (d : Nat) (hd : o.dst = some d) (hn : d < n) (hw : wants ops l o = some true)
    (ho : o.op = .call { callee := .builtin .copy, args := #[x, y], argTypes := #[t, t2] }) (hx : ev l x = some (.slice (some ⟨g, off, none⟩) m cp)) (hy : ev l y = some (.slice (some a) ms cps))
    (ht : P.underlying t = some (.slice e)) (hs : (P.info? e).map (·.size) = some sz) (hi : H[i]? = some (.cel g cur T)) (hcs : cs.length = Nat.min ms m * sz)
    (hsrc : ∀ j v, cs[j]? = some v → w.cell? (a.add j) = some v) (hfit : off + cs.length ≤ cur.size) (h1 : ∀ v ∈ cs, v.oneCell' = true)
    (h : ∀ w2, HP S w0 w2 (H.set i (.cel g (cur.toList.take off ++ cs ++ cur.toList.drop (off + cs.length)).toArray T)) → WL P ops Q rest n ((d, goInt (Nat.min ms m)) :: l) w2) : WL P ops Q (o :: rest) n l w := by
  intro b hb
  refine wpList_step fun K hK => ?_
  rw [if_pos (wants_spec hb hw)]
  unfold Oper.wp
  have hr := run_copy_rows (P := P) w t t2 o.type e sz g off m cp a ms cps cur T cs ht hs (hH.get i hi) hcs hsrc hfit h1
  have hx2 : (execOp b.eval o).run P w = .ok (.value (goInt (Nat.min ms m))) (w.setRow g (cur.toList.take off ++ cs ++ cur.toList.drop (off + cs.length)).toArray) := by
    unfold execOp; rw [ho]
    simp [resolve, invoke, builtin, hb.ev hx, hb.ev hy, hr]
  rw [hx2, Oper.upon_value, hd]
  refine hK _ _ (h _ ?_ _ (hb.put hn _))
  exact hH.change i hi rfl rfl rfl (by simp) (fun k _ hne => setRow_other w g k _ fun q => hne (by rw [q]; rfl)) (setRow_heap w g cur _ T (0, 0) (hH.get i hi)) (fun b' hb' => .inl hb')
/-- 'append(s[:i], make(S, k)...)' without room: a new block -/
theorem WL.growZeros {o : Oper} {t tn e : TypeId} {inf : TypeInfo} {z : Value} {sz by' : Nat} {x y : Operand} {g i k cap : Nat} {K : Int} {cur : Array Value} (j : Nat) (hH : HP S w0 w H) (d : Nat) (hd : o.dst = some d) (hn : d < n) (hw : wants ops l o = some true)
    (ho : o.op = .call { callee := .builtin .append, args := #[x, y], argTypes := #[t, tn] }) (hx : ev l x = some (.slice (some ⟨g, 0, none⟩) i cap)) (hy : ev l y = some (.int .i64 K)) (hK : K = (k : Int))
    (ht : P.underlying t = some (.slice e)) (htn : P.underlying tn = some (.int .i64)) (hi' : P.info? e = some inf) (hz : inf.zero = some z) (hsz : inf.size = sz) (hby : inf.bytes = by') (hzs : z.cells.size = sz) (h0 : 0 < sz)
    (hj : H[j]? = some (.cel g cur e)) (hfit : i * sz ≤ cur.size) (hk : 0 < k) (hg : cap < i + k) (h63 : i + k ≤ 9223372036854775807) (hb : (i + k) * by' ≤ 140737488355328)
    (h : ∀ (g' c' : Nat) (cur' : Array Value) w2, HP S w0 w2 (H ++ [.cel g' cur' e]) → cur'.size = c' * sz → i + k ≤ c' → c' ≤ maxLen → cur'.toList.take (i * sz) = cur.toList.take (i * sz) → WL P ops Q rest n ((d, .slice (some ⟨g', 0, none⟩) (i + k) c') :: l) w2) : WL P ops Q (o :: rest) n l w := by
  intro b hfr
  refine wpList_step fun K' hK' => ?_
  rw [if_pos (wants_spec hfr hw)]
  unfold Oper.wp
  subst hK
  have hold : (Builtin.firstCells inf.size i (.slice (some ⟨g, 0, none⟩) i cap)).run P w.drew = .ok (cur.toList.take (i * sz)).toArray w.drew := by
    rw [hsz]
    refine run_firstCells_some w.drew sz i ⟨g, 0, none⟩ i cap (cur.toList.take (i * sz)) (by rw [List.length_take]; simp; omega) (fun q v hq => ?_)
    have hq2 : cur[q]? = some v := by
      rw [List.getElem?_take] at hq
      split at hq
      · simpa using hq
      · cases hq
    rw [Addr.add_lit, Nat.zero_add]
    exact HP.cell hH.drew j hj hq2
  have hik : i * by' + k * by' = (i + k) * by' := (Nat.add_mul _ _ _).symm
  have hr := Lib.run_append_grow_zeros (P := P) w t tn o.type e inf z .i64 .i64 ht htn hi' hz (some ⟨g, 0, none⟩) i cap (cur.toList.take (i * sz)) hold k hk (by omega) hg (by omega) (by rw [hby]; omega) (by rw [hby]; exact growslice_fits hg hb)
  have hx2 : (execOp b.eval o).run P w = .ok (.value (.slice (some ⟨w.heap.size, 0, none⟩) (i + k) (grownCap w (i + k) cap e))) (w.drew.alloc (.cells ((cur.toList.take (i * sz)).toArray ++ Builtin.zeroCells z.cells k ++ Builtin.zeroCells z.cells (grownCap w (i + k) cap e - (i + k))) e)) := by
    unfold execOp; rw [ho]
    simp [resolve, invoke, builtin, hfr.ev hx, hfr.ev hy, hr]
  rw [hx2, Oper.upon_value, hd]
  have hge := grownCap_ge w (i + k) cap e
  have htl : (cur.toList.take (i * sz)).length = i * sz := by rw [List.length_take]; simp; omega
  have hsize : ((cur.toList.take (i * sz)).toArray ++ Builtin.zeroCells z.cells k ++ Builtin.zeroCells z.cells (grownCap w (i + k) cap e - (i + k))).size = grownCap w (i + k) cap e * sz := by
    simp only [Array.size_append, List.size_toArray, htl, size_zeroCells, hzs]
    rw [← Nat.add_mul, ← Nat.add_mul]
    congr 1; omega
  have q := HP.alloc hH.drew ((cur.toList.take (i * sz)).toArray ++ Builtin.zeroCells z.cells k ++ Builtin.zeroCells z.cells (grownCap w (i + k) cap e - (i + k))) e
  refine hK' _ _ (h w.heap.size (grownCap w (i + k) cap e) _ _ q hsize hge (grownCap_le_maxLen w _ _ _ (by unfold maxLen; omega)) ?_ _ (hfr.put hn _))
  simp only [Array.toList_append, List.append_assoc]
  rw [List.take_append_of_le_length (by simp; omega), List.take_of_length_le (by simp; omega)]
theorem append_args {t t2 e e2 ty : TypeId} (ht : P.underlying t = some (.slice e)) (ht2 : P.underlying t2 = some (.slice e2)) (b : Option Addr) (k c : Nat) (b2 : Option Addr) (k2 c2 : Nat) (w : World) : (Builtin.append_ #[t, t2] ty #[.slice b k c, .slice b2 k2 c2]).run P w = (Builtin.append_ #[t, t] ty #[.slice b k c, .slice b2 k2 c2]).run P w := by
  simp [Builtin.append_, run_underlying ht, run_underlying ht2]
/-- append, the second slice of another type of the same elements -/
theorem WL.append2 {o : Oper} {t t2 e e2 : TypeId} {inf : TypeInfo} {z : Value} {sz by' : Nat} {x y : Operand} {v : Value} {k m : Nat} {xs news : List Value} {bn cp : Nat} {cn : Array Value} (i j : Nat) (hH : HP S w0 w H) (d : Nat) (hd : o.dst = some d) (hn : d < n) (hw : wants ops l o = some true)
    (ho : o.op = .call { callee := .builtin .append, args := #[x, y], argTypes := #[t, t2] }) (hx : ev l x = some v) (hy : ev l y = some (.slice (some ⟨bn, 0, none⟩) m cp))
    (ht : P.underlying t = some (.slice e)) (ht2 : P.underlying t2 = some (.slice e2)) (hi' : P.info? e = some inf) (hz : inf.zero = some z) (hsz : inf.size = sz) (hby : inf.bytes = by') (hzs : z.cells.size = sz) (h0 : 0 < sz)
    (hi : H[i]? = some (.own v k xs e sz)) (hj : H[j]? = some (.cel bn cn e)) (hnews : cn.toList.take news.length = news) (hl : news.length = m * sz) (h1 : ∀ u ∈ news, u.oneCell' = true) (h63 : k + m ≤ maxLen) (hb : (k + m) * by' ≤ 140737488355328)
    (h : ∀ v' w2, (v' = .slice none 0 0 ↔ v = .slice none 0 0 ∧ m = 0) → HP S w0 w2 (H.set i (.own v' (k + m) (xs ++ news) e sz)) → WL P ops Q rest n ((d, v') :: l) w2) : WL P ops Q (o :: rest) n l w := by
  intro a ha
  refine wpList_step fun K hK => ?_
  rw [if_pos (wants_spec ha hw)]
  unfold Oper.wp
  obtain ⟨v', w2, hr, g1, g2, g3, g4⟩ := append_ent (P := P) w t o.type e inf z sz by' ht hi' hz hsz hby hzs h0 v k xs (hH.get i hi) ⟨bn, 0, none⟩ m cp news hl (fun q u hu => by
    rw [Addr.add_mid]
    exact hH.range j hj (by simpa using hnews) q u hu) h1 h63 hb
  obtain ⟨pv, kk, cc, rfl⟩ : ∃ pv kk cc, v = .slice pv kk cc := by
    have h2 : w.ownsRow 0 e sz v k xs := hH.get i hi
    rcases h2.2 with ⟨h3, h1⟩ | ⟨g, cap, cur, hv, _⟩
    · exact ⟨_, _, _, h3⟩
    · exact ⟨_, _, _, hv⟩
  have hx2 : (execOp a.eval o).run P w = .ok (.value v') w2 := by
    unfold execOp; rw [ho]
    simp [resolve, invoke, builtin, ha.ev hx, ha.ev hy, append_args ht ht2, hr]
  rw [hx2, Oper.upon_value, hd]
  refine hK _ _ (h v' w2 g3 ?_ _ (ha.put hn v'))
  exact hH.change i hi g2.os g2.tape g2.output g2.size (fun q hq hne => g2.block q hq fun e => hne e.symm) ⟨g1.1, g1.2⟩ g4
theorem own_le {w : World} {pv : Option Addr} {n cp e s : Nat} {xs : List Value} (h : Ent.holds w (.own (.slice pv n cp) n xs e s)) : n ≤ cp ∧ cp ≤ maxLen ∧ (n = 0 ∨ ∃ g, pv = some ⟨g, 0, none⟩) := by
  have h2 : w.ownsRow 0 e s (.slice pv n cp) n xs := h
  rcases h2.2 with ⟨h3, h1⟩ | ⟨g, cap, cur, hv, _, _, hc, hm, _⟩
  · cases h3; exact ⟨Nat.le_refl _, by decide, .inl rfl⟩
  · cases hv; exact ⟨hc, hm, .inr ⟨g, rfl⟩⟩
/-- slices.overlaps of parts of two blocks -/
theorem x_overlaps {o : Oper} {ρ : Operand → Value} {fn : Func} {f tS tR e sz b b2 o1 o2 l1 c1 l2 c2 : Nat} {x y : Operand} {A B : Array Value} {T T2' : TypeId} (i j : Nat) (hH : HP S w0 w H) (ho : o.op = .call { callee := .value (.func f), args := #[x, y], argTypes := #[tS, tS] })
    (hf' : ρ (.func f) = .func (.func f) #[] #[]) (hx : ρ x = .slice (some ⟨b, o1, none⟩) l1 c1) (hy : ρ y = .slice (some ⟨b2, o2, none⟩) l2 c2) (hf : P.funcs[f]? = some fn) (hname : (fn.name == "runtime.NumGoroutine") = false)
    (hbd : fn.body.isNone = true) (hnx : Extern.findNext fn = none) (he : Extern.find fn = some (Extern.SlicesOverlaps.overlaps #[tS, tS] #[tR])) (ht : P.underlying tS = some (.slice e)) (hs : (P.info? e).map (·.size) = some sz)
    (hi : H[i]? = some (.cel b A T)) (hj : H[j]? = some (.cel b2 B T2')) (hne : b ≠ b2) (hB : B.size ≠ 0) :
    (execOp ρ o).run P w = .ok (.value (.bool false)) w := by
  obtain ⟨inf, hq, rfl⟩ := Option.map_eq_some_iff.1 hs
  have hz : ∀ w, (sizeOf e).run P w = .ok inf.size w := fun w => by simp [sizeOf, typeInfo, hq]
  have g1 : w.heap[b]? = some (.cells A T (0, 0)) := hH.get i hi
  have g2 : w.heap[b2]? = some (.cells B T2' (0, 0)) := hH.get j hj
  have hr : (callFunc f #[.slice (some ⟨b, o1, none⟩) l1 c1, .slice (some ⟨b2, o2, none⟩) l2 c2]).run P w = .ok (.value (.bool false)) w := by
    rw [run_callFunc_extern hf hname hbd hnx he, Lib.run_overlaps_apart w tS tR e ht inf.size hz ⟨b, o1, none⟩ ⟨b2, o2, none⟩ l1 c1 l2 c2 hne T T2' A.size B.size
      (by simp [World.shape?, g1]) (by simp [World.shape?, g2]) hB (by simp [World.frozen?, g1]) (by simp [World.frozen?, g1])]
    rfl
  unfold execOp; rw [ho]
  simp [resolve, invoke, Deferred.ofValue, hx, hy, hf', hr, go_sem]
end
end Fw
end Go.Proofs.Yteckbfebemofmaa
