/- Plain: the requests that arrive as a pattern allows, and the others. -/
import Derived.Test.YteckbfebemofmaaBL
import Derived.Laws.Bits128
set_option linter.unusedVariables false
set_option linter.unusedSimpArgs false
namespace Go.Proofs.Yteckbfebemofmaa
open Go.RowKit Fw
namespace Bs
theorem i64_and63 (n : Int) : bits .and .i64 n 63 = n % 64 := by
  have h127 : (BitVec.ofInt 64 63).toNat = 2 ^ 6 - 1 := by decide
  have key : (BitVec.ofInt 64 n &&& BitVec.ofInt 64 63).toNat = (n % ((2 ^ 64 : Nat) : Int)).toNat % 2 ^ 6 := by
    rw [BitVec.toNat_and, BitVec.toNat_ofInt, h127, Nat.and_two_pow_sub_one_eq_mod]
  show IntKind.i64.wrap ((BitVec.ofInt 64 n &&& BitVec.ofInt 64 63).toNat : Nat) = n % 64
  rw [key, IntKind.wrap_i64]
  omega
theorem x_and63 {P : Program} {ρ : Operand → Value} {o : Oper} {w : World} {t u : TypeId} {x y : Operand} {X : Int} (ho : o.op = .binOp .and t x y u) (hx : ρ x = .int .i64 X) (hy : ρ y = .int .i64 63) :
    (execOp ρ o).run P w = .ok (.value (.int .i64 (X % 64))) w := by
  refine x_bin ho hx hy g_int ?_
  show (pure (Value.int .i64 (bits .and .i64 X 63)) : Sem Value).run P w = _
  rw [i64_and63]; rfl
theorem q_app {qs r : List Rq} {i : Nat} : (qs ++ r).getD i q0 = if i < qs.length then qs.getD i q0 else r.getD (i - qs.length) q0 := by
  simp only [List.getD_eq_getElem?_getD, List.getElem?_append]
  split <;> rfl
theorem t_app {ts r : List T2} {i : Nat} : (ts ++ r).getD i (0, 0) = if i < ts.length then ts.getD i (0, 0) else r.getD (i - ts.length) (0, 0) := by
  simp only [List.getD_eq_getElem?_getD, List.getElem?_append]
  split <;> rfl
/-- requests of one's own, d apart, with their arrivals; t: when the next one may come -/
structure Gn (m tk d : Int) (qs : List Rq) (ev : List T2) (t : Int) : Prop where
  len : ev.length = qs.length
  t0 : 0 ≤ t
  own : ∀ k, k < qs.length → qM qs k = m ∧ qN qs k = tk ∧ 0 ≤ qT qs k ∧ qT qs k ≤ 10000
  ev_ : ∀ k, k < qs.length → eX ev k = qT qs k ∧ eY ev k = 0
  gap : ∀ j k, j < k → k < qs.length → qT qs j + d ≤ qT qs k
  last : ∀ k, k < qs.length → qT qs k + d ≤ t
theorem Gn.nil (m tk d : Int) : Gn m tk d [] [] 0 := ⟨rfl, Int.le_refl _, fun k h => absurd h (Nat.not_lt_zero _), fun k h => absurd h (Nat.not_lt_zero _), fun j k _ h => absurd h (Nat.not_lt_zero _), fun k h => absurd h (Nat.not_lt_zero _)⟩
theorem Gn.push {m tk d t x : Int} {qs : List Rq} {ev : List T2} (h : Gn m tk d qs ev t) (h1 : t ≤ x) (h2 : x ≤ 10000) (hd : 0 ≤ d) : Gn m tk d (qs ++ [⟨m, x, tk⟩]) (ev ++ [(x, 0)]) (x + d) := by
  have hl := h.len
  have ht := h.t0
  have g1 : ∀ k, k < qs.length → (qs ++ [(⟨m, x, tk⟩ : Rq)]).getD k q0 = qs.getD k q0 := fun k hk => by rw [q_app, if_pos hk]
  have g2 : (qs ++ [(⟨m, x, tk⟩ : Rq)]).getD qs.length q0 = ⟨m, x, tk⟩ := by rw [q_app, if_neg (by omega)]; simp
  have g3 : ∀ k, k < qs.length → (ev ++ [(x, (0 : Int))]).getD k (0, 0) = ev.getD k (0, 0) := fun k hk => by rw [t_app, if_pos (by omega)]
  have g4 : (ev ++ [(x, (0 : Int))]).getD qs.length (0, 0) = (x, 0) := by rw [t_app, if_neg (by omega), hl]; simp
  have sp : ∀ k, k < (qs ++ [(⟨m, x, tk⟩ : Rq)]).length → k < qs.length ∨ k = qs.length := fun k hk => by simp at hk; omega
  refine ⟨by simp [hl], by omega, fun k hk => ?_, fun k hk => ?_, fun j k hj hk => ?_, fun k hk => ?_⟩
  · rcases sp k hk with c | rfl
    · unfold qM qN qT; rw [g1 k c]; exact h.own k c
    · unfold qM qN qT; rw [g2]; exact ⟨rfl, rfl, by show 0 ≤ x; omega, h2⟩
  · rcases sp k hk with c | rfl
    · unfold eX eY qT; rw [g1 k c, g3 k c]; exact h.ev_ k c
    · unfold eX eY qT; rw [g2, g4]; exact ⟨rfl, rfl⟩
  · rcases sp k hk with c | rfl
    · unfold qT; rw [g1 k c, g1 j (by omega)]; exact h.gap j k hj c
    · unfold qT; rw [g2, g1 j hj]; have := h.last j hj; show qT qs j + d ≤ x; omega
  · rcases sp k hk with c | rfl
    · unfold qT; rw [g1 k c]; have := h.last k c; show qT qs k + d ≤ x + d; omega
    · unfold qT; rw [g2]; exact Int.le_refl _
theorem Gn.evok {m tk d t : Int} {qs : List Rq} {ev : List T2} (h : Gn m tk d qs ev t) : EvOk ev := fun i hi => by
  have hl := h.len
  have e := h.ev_ i (by omega)
  have g := h.own i (by omega)
  omega
theorem Gn.ls {m tk d t : Int} {qs : List Rq} {ev : List T2} (h : Gn m tk d qs ev t) : ∀ i, i < ev.length → lsV ev d i ≤ eX ev i
  | 0, hi => by
    have hl := h.len
    have e := h.ev_ 0 (by omega)
    have g := h.own 0 (by omega)
    show 0 ≤ _; omega
  | k + 1, hi => by
    have hl := h.len
    have e := h.ev_ (k + 1) (by omega)
    have e2 := h.ev_ k (by omega)
    have g := h.gap k (k + 1) (by omega) (by omega)
    show eX ev k + d ≤ _; omega
/-- the others: proper requests of other masters -/
def Oth (l : List Int) (m : Int) (qs q2 : List Rq) (i : Nat) : Prop := ∃ r, q2 = qs ++ r ∧ r.length ≤ i ∧ ∀ x, x ∈ r → (okR x.m x.t x.n = true ∧ 0 < (posI l x.m).length) ∧ x.m ≠ m
theorem Oth.nil (l : List Int) (m : Int) (qs : List Rq) : Oth l m qs qs 0 := ⟨[], (List.append_nil _).symm, Nat.le_refl _, fun x h => absurd h List.not_mem_nil⟩
theorem Oth.skip {l : List Int} {m : Int} {qs q2 : List Rq} {i : Nat} (h : Oth l m qs q2 i) : Oth l m qs q2 (i + 1) := by
  obtain ⟨r, h1, h2, h3⟩ := h
  exact ⟨r, h1, by omega, h3⟩
theorem Oth.push {l : List Int} {m a b c : Int} {qs q2 : List Rq} {i : Nat} (h : Oth l m qs q2 i) (h1 : okR a b c = true ∧ 0 < (posI l a).length) (h2 : a ≠ m) : Oth l m qs (q2 ++ [⟨a, b, c⟩]) (i + 1) := by
  obtain ⟨r, g1, g2, g3⟩ := h
  refine ⟨r ++ [⟨a, b, c⟩], by rw [g1, List.append_assoc], by simp; omega, fun x hx => ?_⟩
  rcases List.mem_append.1 hx with hx | hx
  · exact g3 x hx
  · rw [List.mem_singleton.1 hx]; exact ⟨h1, h2⟩
theorem Oth.len {l : List Int} {m : Int} {qs q2 : List Rq} {i : Nat} (h : Oth l m qs q2 i) : qs.length ≤ q2.length ∧ q2.length ≤ qs.length + i := by
  obtain ⟨r, g1, g2, g3⟩ := h
  rw [g1]; simp; omega
theorem Oth.get {l : List Int} {m : Int} {qs q2 : List Rq} {i k : Nat} (h : Oth l m qs q2 i) (hk : k < q2.length) : (k < qs.length ∧ q2.getD k q0 = qs.getD k q0) ∨ (qs.length ≤ k ∧ (okR (qM q2 k) (qT q2 k) (qN q2 k) = true ∧ 0 < (posI l (qM q2 k)).length) ∧ qM q2 k ≠ m) := by
  obtain ⟨r, g1, g2, g3⟩ := h
  have hl : q2.length = qs.length + r.length := by rw [g1]; simp
  by_cases c : k < qs.length
  · exact .inl ⟨c, by rw [g1, q_app, if_pos c]⟩
  · refine .inr ⟨by omega, ?_⟩
    have e : q2.getD k q0 = r.getD (k - qs.length) q0 := by rw [g1, q_app, if_neg c]
    have hm : r.getD (k - qs.length) q0 ∈ r := by
      rw [List.getD_eq_getElem?_getD, List.getElem?_eq_getElem (by omega)]; exact List.getElem_mem _
    unfold qM qT qN
    rw [e]; exact g3 _ hm
theorem req_ok {o sp : Nat → Int} {N i : Nat} {m tk d t : Int} {qs q2 : List Rq} {ev : List T2} (hW : WorstOk o sp N m tk d) (h : Gn m tk d qs ev t) (hO : Oth (owl o sp N) m qs q2 i) : ∀ k, k < q2.length → okR (qM q2 k) (qT q2 k) (qN q2 k) = true ∧ 0 < (posI (owl o sp N) (qM q2 k)).length := fun k hk => by
  rcases hO.get hk with ⟨c, e⟩ | ⟨c, g, -⟩
  · obtain ⟨e1, e2, e3, e4⟩ := h.own k c
    have hr := okR_iff.1 hW.okr
    unfold qM qT qN at *
    rw [e, e1, e2]
    exact ⟨okR_iff.2 ⟨hr.1, ⟨e3, e4⟩, hr.2.2⟩, hW.has⟩
  · exact g
theorem own_ok {o sp : Nat → Int} {N i : Nat} {m tk d t : Int} {qs q2 : List Rq} {ev : List T2} (hW : WorstOk o sp N m tk d) (h : Gn m tk d qs ev t) (hO : Oth (owl o sp N) m qs q2 i) (hl : 1 ≤ (owl o sp N).length) : OwnOk (owl o sp N) q2 m tk d qs.length := by
  have hlen := hO.len
  have eq : ∀ k, k < qs.length → q2.getD k q0 = qs.getD k q0 := fun k hk => by
    rcases hO.get (k := k) (by omega) with ⟨c, e⟩ | ⟨c, -⟩
    · exact e
    · omega
  refine ⟨hlen.1, (okR_iff.1 hW.okr).1.1, fun k hk => ?_, fun k h1 h2 => ?_, fun j k hj hk => ?_, hW.d1, fun x hx => ?_⟩
  · obtain ⟨e1, e2, -⟩ := h.own k hk
    unfold qM qN at *
    rw [eq k hk]; exact ⟨e1, e2⟩
  · rcases hO.get h2 with ⟨c, e⟩ | ⟨c, -, g⟩
    · omega
    · exact g
  · unfold qT
    rw [eq k hk, eq j (by omega)]; exact h.gap j k hj hk
  · rw [end_mod (by omega) hW.has]
    have r0 := Int.emod_nonneg x (show ((owl o sp N).length : Int) ≠ 0 by omega)
    have r1 := Int.emod_lt_of_pos x (show (0 : Int) < ((owl o sp N).length : Int) by omega)
    obtain ⟨k, hk⟩ := Int.eq_ofNat_of_zero_le r0
    rw [hk] at r1 ⊢
    exact hW.all k (by omega)
end Bs
end Go.Proofs.Yteckbfebemofmaa
