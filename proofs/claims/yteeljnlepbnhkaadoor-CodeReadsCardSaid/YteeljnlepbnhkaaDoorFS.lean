/- Rows of bytes: a string is appended, bytes become a string; strings joined. -/
import Derived.Test.YteeljnlepbnhkaaDoorFP
import Derived.Lib.AppendStr
import Derived.Lib.UnsafeStr
import Derived.Laws.IdiomStrings
import Derived.Laws.Concat
set_option linter.unusedVariables false
set_option linter.unusedSimpArgs false
namespace Go.Proofs.YteeljnlepbnhkaaDoor
open Go.RowKit
namespace Fw
section
variable {P : Program} {ρ : Operand → Value} {o : Oper} {ops : Array Oper} {Q : Exit → Act → World → Prop} {rest : List Oper} {n : Nat} {l : List (Nat × Value)} {w w' w0 : World} {S : Nat → Prop} {H H2 : List Ent}
theorem x_adds {t u : TypeId} {x y : Operand} {X Y : ByteArray} (ho : o.op = .binOp .add t x y u) (hx : ρ x = .string X) (hy : ρ y = .string Y) (h : X.size + Y.size ≤ 9223372036854775807) :
    (execOp ρ o).run P w = .ok (.value (.string (X ++ Y))) w := x_bin ho hx hy (by rfl) (by
  simp [binOp, run_string_add_sum (P := P) (w := w) X Y h])
theorem x_append2 {t t2 : Nat} {x y : Operand} {X Y v' : Value} {w' : World} (ho : o.op = .call { callee := .builtin .append, args := #[x, y], argTypes := #[t, t2] }) (hx : ρ x = X) (hy : ρ y = Y) (hr : (Builtin.append_ #[t, t2] o.type #[X, Y]).run P w = .ok v' w') :
    (execOp ρ o).run P w = .ok (.value v') w' := by
  unfold execOp; rw [ho]
  simp [resolve, invoke, builtin, hx, hy, hr]
theorem x_conv {s t : TypeId} {x : Operand} {X v : Value} (ho : o.op = .convert s t x) (hx : ρ x = X) (hr : (convert s t X).run P w = .ok v w) : (execOp ρ o).run P w = .ok (.value v) w := by
  unfold execOp; rw [ho]
  simp [hx, hr]
theorem append_ent_str (w : World) (t u ty e : TypeId) (i : TypeInfo) (ht : P.underlying t = some (.slice e)) (hu : P.underlying u = some .string) (hi : P.info? e = some i) (hz : i.zero = some (.int .u8 0))
    (hsize : i.size = 1) (hby : i.bytes = 1) (v : Value) (n : Nat) (xs : List Value) (hown : w.ownsRow 0 e 1 v n xs) (s : ByteArray) (h63 : n + s.size ≤ maxLen) (hbytes : n + s.size ≤ 140737488355328) :
    ∃ v' w', (Builtin.append_ #[t, u] ty #[v, .string s]).run P w = .ok v' w' ∧ w'.ownsRow 0 e 1 v' (n + s.size) (xs ++ Lib.strCells s) ∧ w.grownBy w' v.ownBlock ∧
      (∀ b, v'.ownBlock = some b → v.ownBlock = some b ∨ w.heap.size ≤ b) := by
  obtain ⟨v', w', hr, h2, h3, h4⟩ := Lib.run_append_own_string (P := P) w 0 t u ty e i ht hu hi hz hsize hby v n xs hown s h63 hbytes (Nat.zero_le _)
  refine ⟨v', w', hr, h2, h3, fun b hb => ?_⟩
  rcases hown.2 with ⟨rfl, rfl⟩ | ⟨g, cap, cur, rfl, -, hg, hnc, hcm, hcs, htake⟩
  · obtain ⟨v2, w2, hr2, h22, -, -⟩ := Lib.run_append_own_string (P := P) w w.heap.size t u ty e i ht hu hi hz hsize hby (.slice none 0 0) 0 xs ⟨hown.1, .inl ⟨rfl, rfl⟩⟩ s h63 hbytes (Nat.le_refl _)
    rw [hr] at hr2
    cases hr2
    exact .inr (h22.lt b hb).1
  · by_cases hroom : n + s.size ≤ cap
    · have hcs' : cur.size = cap := by simpa using hcs
      have hr2 := Lib.run_append_room_string (P := P) w t u ty e i ht hu hi hsize g n cap cur hg s hroom (by omega)
      rw [hr] at hr2
      cases hr2
      exact .inl hb
    · have hxl : xs.length = n := by simpa using hown.1
      have holds : ∀ j u, xs[j]? = some u → w.cell? ((⟨g, 0, none⟩ : Addr).add j) = some u := hown.cells (g := g) rfl
      have hr2 := Lib.run_append_grow_string (P := P) w t u ty e i (.int .u8 0) ht hu hi hz ⟨g, 0, none⟩ n cap xs (by rw [hsize]; simpa using hxl) holds s (by omega) (by unfold maxLen at h63; omega) (by rw [hby]; exact growslice_fits (by omega) (by omega))
      rw [hr] at hr2
      cases hr2
      simp [Value.ownBlock] at hb
      exact .inr (by omega)
theorem WL.appendStr {o : Oper} {t u e : TypeId} {inf : TypeInfo} {x y : Operand} {v : Value} {k : Nat} {xs : List Value} {s : ByteArray} (i : Nat) (hH : HP S w0 w H) (d : Nat) (hd : o.dst = some d) (hn : d < n) (hw : wants ops l o = some true)
    (ho : o.op = .call { callee := .builtin .append, args := #[x, y], argTypes := #[t, u] }) (hx : ev l x = some v) (hy : ev l y = some (.string s))
    (ht : P.underlying t = some (.slice e)) (hu : P.underlying u = some .string) (hi' : P.info? e = some inf) (hz : inf.zero = some (.int .u8 0)) (hsz : inf.size = 1) (hby : inf.bytes = 1)
    (hi : H[i]? = some (.own v k xs e 1)) (h63 : k + s.size ≤ 140737488355328)
    (h : ∀ v' w2, HP S w0 w2 (H.set i (.own v' (k + s.size) (xs ++ Lib.strCells s) e 1)) → WL P ops Q rest n ((d, v') :: l) w2) : WL P ops Q (o :: rest) n l w := by
  intro a ha
  refine wpList_step fun K hK => ?_
  rw [if_pos (wants_spec ha hw)]
  unfold Oper.wp
  obtain ⟨v', w2, hr, g1, g2, g4⟩ := append_ent_str (P := P) w t u o.type e inf ht hu hi' hz hsz hby v k xs (hH.get i hi) s (by unfold maxLen; omega) h63
  rw [x_append2 (P := P) ho (ha.ev hx) (ha.ev hy) hr, Oper.upon_value, hd]
  refine hK _ _ (h v' w2 ?_ _ (ha.put hn v'))
  exact hH.change i hi g2.os g2.tape g2.output g2.size (fun q hq hne => g2.block q hq fun e => hne e.symm) ⟨g1.1, g1.2⟩ g4
/-- the bytes as cells -/
def bC (l : List UInt8) : List Value := l.map fun b => Value.int .u8 b.toNat
theorem bC_str (s : ByteArray) : Lib.strCells s = bC s.data.toList := rfl
theorem bC_app (a b : List UInt8) : bC a ++ bC b = bC (a ++ b) := by simp [bC]
theorem own_bytes {w : World} {v : Value} {k e : Nat} {l : List UInt8} (h : Ent.holds w (.own v k (bC l) e 1)) : l.length = k ∧ ∃ pv cp, v = .slice pv k cp ∧ (pv = none → k = 0) ∧ ∀ a, pv = some a → ∀ j (hj : j < l.length), w.cell? (a.add j) = some (.int .u8 (l[j].toNat : Int)) := by
  have h0 : w.ownsRow 0 e 1 v k (bC l) := h
  have hl : l.length = k := by simpa [bC] using h0.1
  refine ⟨hl, ?_⟩
  rcases h0.2 with ⟨rfl, rfl⟩ | ⟨g, cap, cur, rfl, -, hg, hnc, hcm, hcs, htake⟩
  · exact ⟨none, 0, rfl, fun _ => rfl, fun a e => by cases e⟩
  · refine ⟨_, cap, rfl, fun e => (by cases e), fun a e j hj => ?_⟩
    cases e
    exact h0.cells (g := g) rfl j _ (by simp [bC, List.getElem?_eq_getElem hj])
theorem conv_bytes {w : World} {pv : Option Addr} {k cp : Nat} {e : Nat} {l : List UInt8} {src dst : TypeId} (h : Ent.holds w (.own (.slice pv k cp) k (bC l) e 1)) (hs : P.underlying src = some (.slice e)) (he : P.underlying e = some (.int .u8)) (hd : P.underlying dst = some .string) :
    (convert src dst (.slice pv k cp)).run P w = .ok (.string ⟨l.toArray⟩) w := by
  obtain ⟨hl, pv', cp', hv, hn, hc⟩ := own_bytes h
  simp only [Value.slice.injEq, true_and] at hv
  obtain ⟨rfl, rfl⟩ := hv
  cases pv with
  | some a => rw [← hl]; exact run_convert_bytes_back w src dst e a cp l hs he hd (hc a rfl)
  | none =>
    have hk := hn rfl
    subst hk
    obtain rfl := List.length_eq_zero_iff.1 hl
    rw [run_convert_bytes_string w src dst e none 0 cp hs he hd]
    rfl
end
end Fw
end Go.Proofs.YteeljnlepbnhkaaDoor
