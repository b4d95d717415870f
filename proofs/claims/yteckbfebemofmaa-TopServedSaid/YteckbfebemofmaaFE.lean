/- Operations of a region that draws its order, which lay or enlarge rows: for WC.confG, WC.confH. -/
import Derived.Test.YteckbfebemofmaaFG
import Derived.Test.YteckbfebemofmaaFV
set_option linter.unusedVariables false
set_option linter.unusedSimpArgs false
namespace Go.Proofs.Yteckbfebemofmaa
open Go.RowKit
namespace Fw
section
variable {P : Program} {S : Nat → Prop} {w0 w : World} {H : List Ent} {γ : Type} {Wt Kn R1 R2 : Prop} {ρ : Operand → Value} {o : Oper} {val : γ → Value} {agr : γ → Prop} {WI : γ → World → Prop}
theorem cf_alloc {c : Array Value} {T : TypeId} (hH : HP S w0 w H) (V : Nat → Value) (hw : Wt) (hk : Kn) (hr : (execOp ρ o).run P w = .ok (.value (V w.heap.size)) (w.alloc (.cells c T)))
    (k : ∀ b w', HP S w0 w' (H ++ [.cel b c T]) → ∃ g', agr g' ∧ val g' = V b ∧ WI g' w') :
    (Wt ∧ Kn ∧ ((∃ g' w', agr g' ∧ (execOp ρ o).run P w = .ok (.value (val g')) w' ∧ WI g' w') ∨ R1)) ∨ R2 := by
  obtain ⟨g', h1, h2, h3⟩ := k _ _ (HP.alloc hH c T)
  exact .inl ⟨hw, hk, .inl ⟨g', _, h1, by rw [h2]; exact hr, h3⟩⟩
theorem cf_append {t e : TypeId} {inf : TypeInfo} {z : Value} {sz by' : Nat} {x y : Operand} {v : Value} {k m : Nat} {xs : List Value} (news : List Value) {bn cp : Nat} {cn : Array Value} (i j : Nat) (hH : HP S w0 w H) (hw : Wt) (hkn : Kn)
    (ho : o.op = .call { callee := .builtin .append, args := #[x, y], argTypes := #[t, t] }) (hx : ρ x = v) (hy : ρ y = .slice (some ⟨bn, 0, none⟩) m cp)
    (ht : P.underlying t = some (.slice e)) (hi' : P.info? e = some inf) (hz : inf.zero = some z) (hsz : inf.size = sz) (hby : inf.bytes = by') (hzs : z.cells.size = sz) (h0 : 0 < sz)
    (hi : H[i]? = some (.own v k xs e sz)) (hj : H[j]? = some (.cel bn cn e)) (hnews : cn.toList.take news.length = news) (hl : news.length = m * sz) (h1 : ∀ u ∈ news, u.oneCell' = true) (h63 : k + m ≤ maxLen) (hb : (k + m) * by' ≤ 140737488355328)
    (h : ∀ v' w2, HP S w0 w2 (H.set i (.own v' (k + m) (xs ++ news) e sz)) → ∃ g', agr g' ∧ val g' = v' ∧ WI g' w2) :
    (Wt ∧ Kn ∧ ((∃ g' w', agr g' ∧ (execOp ρ o).run P w = .ok (.value (val g')) w' ∧ WI g' w') ∨ R1)) ∨ R2 := by
  obtain ⟨v', w2, hr, g1, g2, g3, g4⟩ := append_ent (P := P) w t o.type e inf z sz by' ht hi' hz hsz hby hzs h0 v k xs (hH.get i hi) ⟨bn, 0, none⟩ m cp news hl (fun q u hu => by
    rw [Addr.add_mid]
    exact hH.range j hj (by simpa using hnews) q u hu) h1 h63 hb
  obtain ⟨g', a1, a2, a3⟩ := h v' w2 (hH.change i hi g2.os g2.tape g2.output g2.size (fun q hq hne => g2.block q hq fun e => hne e.symm) ⟨g1.1, g1.2⟩ g4)
  exact .inl ⟨hw, hkn, .inl ⟨g', w2, a1, by rw [a2]; exact x_append (P := P) ho hx hy hr, a3⟩⟩
theorem cf_appendSrc {t e : TypeId} {inf : TypeInfo} {z : Value} {sz by' : Nat} {x y : Operand} {v : Value} {k m : Nat} {xs : List Value} (news : List Value) {p : Option Addr} {cp : Nat} (i : Nat) (hH : HP S w0 w H) (hw : Wt) (hkn : Kn)
    (ho : o.op = .call { callee := .builtin .append, args := #[x, y], argTypes := #[t, t] }) (hx : ρ x = v) (hy : ρ y = .slice p m cp)
    (ht : P.underlying t = some (.slice e)) (hi' : P.info? e = some inf) (hz : inf.zero = some z) (hsz : inf.size = sz) (hby : inf.bytes = by') (hzs : z.cells.size = sz) (h0 : 0 < sz)
    (hi : H[i]? = some (.own v k xs e sz)) (hsrc : (∃ a, p = some a ∧ ∀ q u, news[q]? = some u → w.cell? (a.add q) = some u) ∨ (p = none ∧ m = 0 ∧ cp = 0)) (hl : news.length = m * sz) (h1 : ∀ u ∈ news, u.oneCell' = true) (h63 : k + m ≤ maxLen) (hb : (k + m) * by' ≤ 140737488355328)
    (h : ∀ v' w2, HP S w0 w2 (H.set i (.own v' (k + m) (xs ++ news) e sz)) → ∃ g', agr g' ∧ val g' = v' ∧ WI g' w2) :
    (Wt ∧ Kn ∧ ((∃ g' w', agr g' ∧ (execOp ρ o).run P w = .ok (.value (val g')) w' ∧ WI g' w') ∨ R1)) ∨ R2 := by
  rcases hsrc with ⟨ad, rfl, hc⟩ | ⟨rfl, rfl, rfl⟩
  · obtain ⟨v', w2, hr, g1, g2, g3, g4⟩ := append_ent (P := P) w t o.type e inf z sz by' ht hi' hz hsz hby hzs h0 v k xs (hH.get i hi) ad m cp news hl hc h1 h63 hb
    obtain ⟨g', a1, a2, a3⟩ := h v' w2 (hH.change i hi g2.os g2.tape g2.output g2.size (fun q hq hne => g2.block q hq fun e => hne e.symm) ⟨g1.1, g1.2⟩ g4)
    exact .inl ⟨hw, hkn, .inl ⟨g', w2, a1, by rw [a2]; exact x_append (P := P) ho hx hy hr, a3⟩⟩
  · have hnil : news = [] := List.length_eq_zero_iff.1 (by rw [hl]; simp)
    subst hnil
    have hr := run_append_owned_none (P := P) (w := w) 0 t o.type e inf sz ht hi' v k xs (hH.get i hi)
    obtain ⟨g', a1, a2, a3⟩ := h v w (hH.setSame i hi (by have q := hH.get i hi; simpa using q) rfl)
    exact .inl ⟨hw, hkn, .inl ⟨g', w, a1, by rw [a2]; exact x_append (P := P) ho hx hy hr, a3⟩⟩
theorem cf_makeOwn {t e : TypeId} {inf : TypeInfo} {z : Value} {sz by' cap : Nat} {x y : Operand} {C : Int} (hH : HP S w0 w H) (hw : Wt) (hkn : Kn)
    (ho : o.op = .makeSlice t x y) (hx : ρ x = .int .i64 0) (hy : ρ y = .int .i64 C) (hC : C = (cap : Int))
    (ht : P.underlying t = some (.slice e)) (hi' : P.info? e = some inf) (hz : inf.zero = some z) (hsz : inf.size = sz) (hby : inf.bytes = by') (hzs : z.cells.size = sz) (hb : by' * cap ≤ 281474976710656) (h63 : cap ≤ maxLen)
    (h : ∀ g w2, HP S w0 w2 (H ++ [.own (.slice (some ⟨g, 0, none⟩) 0 cap) 0 [] e sz]) → ∃ g', agr g' ∧ val g' = .slice (some ⟨g, 0, none⟩) 0 cap ∧ WI g' w2) :
    (Wt ∧ Kn ∧ ((∃ g' w', agr g' ∧ (execOp ρ o).run P w = .ok (.value (val g')) w' ∧ WI g' w') ∨ R1)) ∨ R2 := by
  subst hC
  have hmx : cap ≤ 9223372036854775807 := h63
  have hr := run_make (P := P) w t e inf z ht hi' hz .i64 .i64 0 (cap : Int) (Int.le_refl 0) (by omega) (by rw [hby]; omega) (by omega)
  have q := HP.alloc hH (madeCells z.cells (cap * inf.size)) e
  have q2 := q.setSame H.length (e := .cel w.heap.size (madeCells z.cells (cap * inf.size)) e) (e' := .own (.slice (some ⟨w.heap.size, 0, none⟩) 0 cap) 0 [] e sz) (by simp)
    (World.ownsRow_made (size := sz) w _ cap (Nat.zero_le _) h63 (by rw [← hsz]; simp [madeCells])) rfl
  obtain ⟨g', a1, a2, a3⟩ := h w.heap.size (w.alloc (.cells (madeCells z.cells (cap * inf.size)) e)) (by simpa using q2)
  simp only [Int.toNat_natCast, Int.toNat_zero] at hr
  exact .inl ⟨hw, hkn, .inl ⟨g', _, a1, by rw [a2]; exact x_makeR (P := P) ho hx hy hr, a3⟩⟩
end
end Fw
end Go.Proofs.Yteckbfebemofmaa
