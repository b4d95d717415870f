/- Code written and read, plainly. -/
import Derived.Test.YteeljnlepbnhkaaDoorPA
import Derived.Lib.AtoiAllCases
import Derived.Lib.Repeat
set_option linter.unusedVariables false
set_option linter.unusedSimpArgs false
namespace Go.Proofs.YteeljnlepbnhkaaDoor
open Go.RowKit Fw
namespace Cw
open Qa Go.Lib Ec
/-! Numbers. -/
def strip (s : List UInt8) : List UInt8 := match s with
  | [] => []
  | b :: t => if b = 45 then t else b :: t
def neg (s : List UInt8) : Bool := match s with
  | [] => false
  | b :: _ => decide (b = 45)
def numV (s : List UInt8) : Option Int :=
  if strip s = [] ∨ 10 < (strip s).length ∨ ((strip s).head? = some 48 ∧ s ≠ [48]) then none else
  match decFrom 0 (strip s) with
  | none => none
  | some m => some (if neg s = true then -(m : Int) else m)
theorem dec_snoc : ∀ (l : List UInt8) (acc m : Nat) (b : UInt8), decFrom acc (l ++ [b]) = some m → ∃ m' d, decFrom acc l = some m' ∧ digitVal b = some d ∧ m = 10 * m' + d
  | [], acc, m, b, h => by
    simp only [List.nil_append, decFrom] at h
    cases hd : digitVal b with
    | none => simp [hd] at h
    | some d => simp only [hd, Option.some.injEq] at h; exact ⟨acc, d, rfl, rfl, by omega⟩
  | a :: t, acc, m, b, h => by
    simp only [List.cons_append, decFrom] at h ⊢
    cases hd : digitVal a with
    | none => simp [hd] at h
    | some d => simp only [hd] at h ⊢; exact dec_snoc t _ m b h
theorem digit_byte {b : UInt8} {d : Nat} (h : digitVal b = some d) : d < 10 ∧ b = UInt8.ofNat (48 + d) := by
  have := digitVal_eq h
  refine ⟨by omega, UInt8.toNat_inj.1 ?_⟩
  rw [show (UInt8.ofNat (48 + d)).toNat = 48 + d by simp; omega]
  omega
/-- digits without a leading zero are the numeral -/
theorem dec_canon : ∀ (n : Nat) (l : List UInt8) (m : Nat), l.length = n → l ≠ [] → decFrom 0 l = some m → (l.head? ≠ some 48 ∨ l = [48]) → l = decDigits m := by
  intro n
  induction n with
  | zero => intro l m hl hne; exact absurd (List.length_eq_zero_iff.1 hl) hne
  | succ n ih =>
    intro l m hl hne hd hz
    obtain ⟨r, b, rfl⟩ : ∃ r b, l = r ++ [b] := ⟨l.dropLast, l.getLast hne, (List.dropLast_concat_getLast hne).symm⟩
    obtain ⟨m', d, h1, h2, rfl⟩ := dec_snoc r 0 m b hd
    obtain ⟨hd10, rfl⟩ := digit_byte h2
    by_cases hr : r = []
    · subst hr
      simp only [decFrom, Option.some.injEq] at h1
      subst h1
      rw [decDigits_one (by omega)]
      simp
    · have hz' : r.head? ≠ some 48 := by
        rcases hz with hz | hz
        · intro q; apply hz; cases r with
          | nil => exact absurd rfl hr
          | cons x t => simpa using q
        · exfalso
          have := congrArg List.length hz
          simp at this
          exact hr this
      have e := ih r m' (by simp at hl; exact hl) hr h1 (.inl hz')
      have hm : m' ≠ 0 := by
        rintro rfl
        rw [decDigits_one (by omega)] at e
        rw [e] at hz'
        exact hz' rfl
      rw [decDigits, dif_neg (by omega), show (10 * m' + d) / 10 = m' by omega, show (10 * m' + d) % 10 = d by omega, ← e]
theorem dec_head {u : Nat} : (decDigits u).head? = some 48 → u = 0 := by
  induction u using Nat.strongRecOn with
  | _ u ih =>
    intro h
    by_cases hu : u < 10
    · rw [decDigits_one hu] at h
      simp at h
      have := congrArg UInt8.toNat h
      simp at this
      omega
    · rw [decDigits, dif_neg hu] at h
      have hne := decDigits_ne (u / 10)
      cases hc : decDigits (u / 10) with
      | nil => exact absurd hc hne
      | cons x t =>
        rw [hc] at h
        have := ih (u / 10) (by omega) (by rw [hc]; simpa using h)
        omega
theorem dec_head45 {u : Nat} {b : UInt8} {t : List UInt8} (h : decDigits u = b :: t) : b ≠ 45 := by
  have := dec_digit u b (by rw [h]; exact List.mem_cons_self)
  rintro rfl
  revert this; decide
theorem strip_itoa (n : Int) : strip (itoa n) = decDigits n.natAbs ∧ neg (itoa n) = decide (n < 0) := by
  rcases Int.lt_or_le n 0 with h | h
  · rw [itoa_ne h]; simp [strip, neg, h]
  · rw [itoa_pos h]
    cases hc : decDigits n.natAbs with
    | nil => exact absurd hc (decDigits_ne _)
    | cons b t =>
      have hb := dec_head45 hc
      refine ⟨by simp [strip, hb], ?_⟩
      rw [decide_eq_false (by omega)]
      simp [neg, hb]
theorem numV_itoa {n : Int} (h : (decDigits n.natAbs).length ≤ 10) : numV (itoa n) = some n := by
  obtain ⟨h1, h2⟩ := strip_itoa n
  unfold numV
  rw [h1, h2, decFrom_any]
  have hz : ¬ (decDigits n.natAbs = [] ∨ 10 < (decDigits n.natAbs).length ∨ ((decDigits n.natAbs).head? = some 48 ∧ itoa n ≠ [48])) := by
    rintro (q | q | ⟨q, q2⟩)
    · exact decDigits_ne _ q
    · omega
    · have h0 := dec_head q
      have : n = 0 := by omega
      subst this
      apply q2
      rw [itoa_pos (by decide)]
      exact decDigits_one (by decide)
  rw [if_neg hz]
  simp only [Option.some.injEq]
  by_cases hn : n < 0
  · simp [hn]; omega
  · simp [hn]; omega
theorem numV_some {s : List UInt8} {n : Int} (h : numV s = some n) : s = itoa n ∧ (strip s).length ≤ 10 := by
  unfold numV at h
  by_cases hz : strip s = [] ∨ 10 < (strip s).length ∨ ((strip s).head? = some 48 ∧ s ≠ [48])
  · rw [if_pos hz] at h; cases h
  · rw [if_neg hz] at h
    have g1 : strip s ≠ [] := fun q => hz (.inl q)
    have g2 : (strip s).length ≤ 10 := by
      apply Classical.byContradiction; intro q; exact hz (.inr (.inl (by omega)))
    refine ⟨?_, g2⟩
    cases hd : decFrom 0 (strip s) with
    | none => rw [hd] at h; cases h
    | some m =>
      rw [hd] at h
      simp only [Option.some.injEq] at h
      have hc := dec_canon _ (strip s) m rfl g1 hd (by
        by_cases q : (strip s).head? = some 48
        · right
          by_cases q2 : s = [48]
          · rw [q2]; rfl
          · exact absurd (.inr (.inr ⟨q, q2⟩)) hz
        · exact .inl q)
      cases s with
      | nil => exact absurd rfl g1
      | cons b t =>
        by_cases hb : b = 45
        · subst hb
          simp only [strip, if_true] at hc hz
          simp only [neg, decide_true, if_true] at h
          have hm : m ≠ 0 := by
            rintro rfl
            rw [decDigits_one (by omega)] at hc
            apply hz
            right; right
            rw [hc]
            exact ⟨rfl, by simp⟩
          rw [← h, itoa_ne (by omega), show (-(m : Int)).natAbs = m by omega, ← hc]
        · simp only [strip, if_neg hb] at hc
          simp only [neg, hb, decide_false, Bool.false_eq_true, if_false] at h
          rw [← h, itoa_pos (by omega), show ((m : Int)).natAbs = m by omega, ← hc]
theorem numV_bd {s : List UInt8} {n : Int} (h : numV s = some n) : -10000000000 < n ∧ n < 10000000000 := by
  obtain ⟨h1, h2⟩ := numV_some h
  rw [h1, (strip_itoa n).1] at h2
  have h3 := decFrom_lt _ _ _ (decFrom_any n.natAbs)
  have h4 : (10 : Nat) ^ (decDigits n.natAbs).length ≤ 10 ^ 10 := Nat.pow_le_pow_right (by decide) h2
  have h5 : (10 : Nat) ^ 10 = 10000000000 := by decide
  omega
theorem dec_len10 {u : Nat} (h : u < 10000000000) : (decDigits u).length ≤ 10 := by
  rw [decDigits_length]
  rcases Nat.lt_or_ge u 10 with h1 | h1
  · rw [nDigits_small h1]; omega
  · have : ∀ k, k ≤ 9 → u < 10 ^ (k + 1) → nDigits u ≤ k + 1 := fun k => by
      induction k with
      | zero => intro _ h2; rw [nDigits_small (by simpa using h2)]; omega
      | succ k ih =>
        intro hk h2
        by_cases h3 : u < 10 ^ (k + 1)
        · have := ih (by omega) h3; omega
        · rw [nDigits_unique (k + 1) u (by omega) h2]; omega
    exact this 9 (by omega) (by omega)
theorem itoa_len11 {n : Int} (h : -10000000000 < n ∧ n < 10000000000) : (itoa n).length ≤ 11 := by
  have := dec_len10 (u := n.natAbs) (by omega)
  rcases Int.lt_or_le n 0 with q | q
  · rw [itoa_ne q]; simp; omega
  · rw [itoa_pos q]; omega
theorem atoiAll_itoa10 {n : Int} (h : -10000000000 < n ∧ n < 10000000000) : atoiAll (itoa n) = .ok n := by
  have := itoa_len11 h
  rw [atoiAll_short _ (by omega), atoi_itoa]; rfl
theorem trim_strip (s : List UInt8) : Lib.trimPrefix s [45] = strip s := by
  unfold Lib.trimPrefix
  cases s with
  | nil => simp [Lib.hasPrefix, strip]
  | cons b t =>
    by_cases hb : b = 45
    · subst hb; simp [Lib.hasPrefix, strip]
    · simp [Lib.hasPrefix, strip, hb]
      exact fun e => hb e.symm
/-- what the program's decimal tests -/
theorem dec_yes {s : List UInt8} {v : Int} (h2 : itoa v = s) (h3 : (strip s).length ≤ 10) : numV s = some v := by
  rw [← h2] at h3 ⊢
  rw [(strip_itoa v).1] at h3
  exact numV_itoa h3
theorem dec_no {s : List UInt8} {n : Int} (h : numV s = some n) : atoiAll s = .ok n ∧ itoa n = s ∧ (strip s).length ≤ 10 := by
  obtain ⟨h1, h2⟩ := numV_some h
  exact ⟨by conv => lhs; rw [h1]
            exact atoiAll_itoa10 (numV_bd h), h1.symm, h2⟩
/-! Instructions. -/
abbrev I3 := Int × Int × Int
def args : List (List UInt8) → Option (Int × Int)
  | [] => some (0, 0)
  | [x] => (numV x).map fun a => (a, 0)
  | [x, y] => match numV x with
    | none => none
    | some a => (numV y).map fun b => (a, b)
  | _ => none
def insV : List (List UInt8) → Option I3
  | [] => none
  | w :: r => match opI (bS w) with
    | none => none
    | some k => if (r.length : Int) = opd k then (args r).map fun p => ((k : Int), p.1, p.2) else none
def parV : List (List UInt8) → List I3 → Nat → Nat ⊕ List I3
  | [], acc, _ => .inr acc
  | l :: r, acc, line => match wl [] l with
    | [] => parV r acc (line + 1)
    | w :: ws => match insV (w :: ws) with
      | none => .inl (line + 1)
      | some i => parV r (acc ++ [i]) (line + 1)
def cT (T : List I3) (i : Nat) : Int := (T.getD i (0, 0, 0)).1
def aT (T : List I3) (i : Nat) : Int := (T.getD i (0, 0, 0)).2.1
def bT (T : List I3) (i : Nat) : Int := (T.getD i (0, 0, 0)).2.2
def chkT (T : List I3) : Int := chk (cT T) (aT T) (bT T) false T.length
theorem opd_le (k : Nat) : 0 ≤ opd k ∧ opd k ≤ 2 := by unfold opd; split <;> (try split) <;> omega
/-! The text. -/
def linT (d : Nat) (k : Nat) (a b : Int) : List UInt8 := Lib.repeatL [32, 32] d ++ (sp k).n.data.toList ++ (if (sp k).a ≠ 0 then 32 :: itoa a else []) ++ (if (sp k).b ≠ 0 then 32 :: itoa b else [])
def txV (c A B dep : Nat → Int) (n : Nat) : List UInt8 := (List.range n).flatMap fun i => linT (dep i).toNat (c i).toNat (A i) (B i) ++ [10]
theorem txV_s (c A B dep : Nat → Int) (n : Nat) : txV c A B dep (n + 1) = txV c A B dep n ++ (linT (dep n).toNat (c n).toNat (A n) (B n) ++ [10]) := by
  simp [txV, List.range_succ]
def okName (k : Nat) : Bool := (sp k).n.data.toList.all (fun b => b != 32 && b != 10) && !(sp k).n.data.toList.isEmpty && (decide ((sp k).b = 0) || decide ((sp k).a ≠ 0)) && decide ((sp k).n.data.toList.length ≤ 20)
theorem okName_all : ∀ k, k < 36 → okName k = true := by
  have : (List.range 36).all okName = true := by kernel_rfl
  intro k hk
  exact List.all_eq_true.1 this k (List.mem_range.2 hk)
theorem name_ok {k : Nat} (hk : k < 36) : no 32 (sp k).n.data.toList ∧ no 10 (sp k).n.data.toList ∧ (sp k).n.data.toList ≠ [] ∧ ((sp k).b = 0 ∨ (sp k).a ≠ 0) ∧ (sp k).n.data.toList.length ≤ 20 := by
  have := okName_all k hk
  unfold okName at this
  simp only [Bool.and_eq_true, Bool.or_eq_true, decide_eq_true_eq, List.all_eq_true, Bool.not_eq_true'] at this
  obtain ⟨⟨⟨h1, h2⟩, h3⟩, h4⟩ := this
  refine ⟨?_, ?_, ?_, h3, h4⟩
  · intro b hb e
    have := (h1 b hb).1
    simp [e] at this
  · intro b hb e
    have := (h1 b hb).2
    simp [e] at this
  · intro e
    rw [e] at h2
    cases h2
theorem itoa_no {x : UInt8} (hx : x = 32 ∨ x = 10) (n : Int) : no x (itoa n) := fun b hb e => by
  subst e
  rcases Int.lt_or_le n 0 with h | h
  · rw [itoa_ne h] at hb
    rcases List.mem_cons.1 hb with hb | hb
    · rcases hx with rfl | rfl <;> revert hb <;> decide
    · have := dec_digit _ _ hb; rcases hx with rfl | rfl <;> revert this <;> decide
  · rw [itoa_pos h] at hb
    have := dec_digit _ _ hb; rcases hx with rfl | rfl <;> revert this <;> decide
theorem rep_no10 (d : Nat) : no 10 (Lib.repeatL [32, 32] d) := by
  induction d with
  | zero => intro b hb; simp [Lib.repeatL] at hb
  | succ d ih =>
    intro b hb
    simp only [Lib.repeatL, List.mem_append] at hb
    rcases hb with hb | hb
    · simp at hb; subst hb; decide
    · exact ih b hb
theorem no_app {x : UInt8} {l1 l2 : List UInt8} (h1 : no x l1) (h2 : no x l2) : no x (l1 ++ l2) := fun b hb => by
  rcases List.mem_append.1 hb with hb | hb
  · exact h1 b hb
  · exact h2 b hb
theorem no_nil (x : UInt8) : no x [] := fun b hb => by cases hb
theorem no_if {x : UInt8} {p : Prop} [Decidable p] {n : Int} (hx : x = 10) : no x (if p then 32 :: itoa n else []) := by
  split
  · intro b hb
    rcases List.mem_cons.1 hb with rfl | hb
    · subst hx; decide
    · exact itoa_no (.inr hx) n b hb
  · exact no_nil x
theorem lin_no10 {d k : Nat} {a b : Int} (hk : k < 36) : no 10 (linT d k a b) :=
  no_app (no_app (no_app (rep_no10 d) (name_ok hk).2.1) (no_if rfl)) (no_if rfl)
theorem ll_tx (g : Nat → List UInt8) : ∀ L : List Nat, (∀ i ∈ L, no 10 (g i)) → ll [] (L.flatMap fun i => g i ++ [10]) = L.map g
  | [], _ => by simp [ll]
  | i :: L, h => by
    have := ll_tx g L fun j hj => h j (by simp [hj])
    simp only [List.flatMap_cons, List.append_assoc, List.singleton_append, List.map_cons]
    rw [ll_cut (h i (by simp)), this]
theorem wl_rep (d : Nat) (l : List UInt8) : wl [] (Lib.repeatL [32, 32] d ++ l) = wl [] l := by
  induction d with
  | zero => simp [Lib.repeatL]
  | succ d ih => simp only [Lib.repeatL, List.append_assoc, List.cons_append, List.nil_append]; simp [wl, ih]
theorem wl_word {l1 l2 : List UInt8} (h : no 32 l1) (hne : l1 ≠ []) : wl [] (l1 ++ 32 :: l2) = l1 :: wl [] l2 := by
  rw [wl_free h]; simp [wl, hne]
theorem wl_one {l1 : List UInt8} (h : no 32 l1) (hne : l1 ≠ []) : wl [] l1 = [l1] := by
  have := wl_free (l1 := l1) (cur := []) (l2 := []) h
  rw [List.append_nil] at this
  rw [this]; simp [wl, hne]
theorem itoa_nn (n : Int) : itoa n ≠ [] := by
  rcases Int.lt_or_le n 0 with h | h
  · rw [itoa_ne h]; simp
  · rw [itoa_pos h]; exact decDigits_ne _
theorem ite_le {p : Prop} [Decidable p] {a b c : Int} (h1 : a ≤ c) (h2 : b ≤ c) : (if p then a else b) ≤ c := by split <;> assumption
theorem mosts_le (r : Int) : mosts r ≤ 50 := by
  unfold mosts
  exact ite_le (by decide) (ite_le (by decide) (ite_le (by decide) (ite_le (by decide) (ite_le (by decide) (ite_le (by decide) (ite_le (by decide) (ite_le (by decide) (ite_le (by decide) (ite_le (by decide) (ite_le (by decide) (ite_le (by decide) (ite_le (by decide) (by decide)))))))))))))
theorem rng_bd {n r : Int} (h : rng n r false = true) : -2147483648 ≤ n ∧ n ≤ 2147483647 ∧ (r = 0 → n = 0) := by
  unfold rng at h
  by_cases h1 : r = 1
  · rw [if_pos h1] at h; simp at h; omega
  · rw [if_neg h1] at h
    by_cases h3 : r = 3
    · rw [if_pos h3] at h; simp at h; omega
    · rw [if_neg h3] at h
      by_cases h4 : r = 14
      · rw [if_pos h4] at h; simp at h; omega
      · rw [if_neg h4] at h
        simp at h
        have := mosts_le r
        refine ⟨by omega, by omega, fun h0 => ?_⟩
        subst h0
        have : mosts 0 = 0 := by decide
        omega
theorem vld_facts {c a b : Int} (h : vld c a b false = true) : ∃ k : Nat, c = (k : Int) ∧ k < 36 ∧ (-2147483648 ≤ a ∧ a ≤ 2147483647) ∧ (-2147483648 ≤ b ∧ b ≤ 2147483647) ∧ ((sp k).a = 0 → a = 0) ∧ ((sp k).b = 0 → b = 0) := by
  unfold vld at h
  simp only [Bool.and_eq_true, decide_eq_true_eq] at h
  obtain ⟨⟨h0, h1⟩, h2, h3, -⟩ := h
  have r1 := rng_bd h2
  have r2 := rng_bd h3
  exact ⟨c.toNat, by omega, by omega, ⟨r1.1, r1.2.1⟩, ⟨r2.1, r2.2.1⟩, r1.2.2, r2.2.2⟩
theorem ins_line {d k : Nat} {a b : Int} (hk : k < 36) (ha : -2147483648 ≤ a ∧ a ≤ 2147483647) (hb : -2147483648 ≤ b ∧ b ≤ 2147483647) (ha0 : (sp k).a = 0 → a = 0) (hb0 : (sp k).b = 0 → b = 0) :
    ∃ ws, wl [] (linT d k a b) = (sp k).n.data.toList :: ws ∧ insV ((sp k).n.data.toList :: ws) = some ((k : Int), a, b) := by
  obtain ⟨n1, n2, n3, n4, -⟩ := name_ok hk
  have hop : opI (bS (sp k).n.data.toList) = some k := opI_back k hk
  have na : numV (itoa a) = some a := numV_itoa (dec_len10 (by omega))
  have nb : numV (itoa b) = some b := numV_itoa (dec_len10 (by omega))
  have i1 := itoa_no (x := 32) (.inl rfl) a
  have i2 := itoa_no (x := 32) (.inl rfl) b
  unfold linT
  rw [List.append_assoc, List.append_assoc, wl_rep]
  by_cases hA : (sp k).a = 0
  · have hB : (sp k).b = 0 := by
      rcases n4 with h | h
      · exact h
      · exact absurd hA h
    refine ⟨[], ?_, ?_⟩
    · rw [if_neg (by simpa using hA), if_neg (by simpa using hB), List.append_nil, List.append_nil]
      exact wl_one n1 n3
    · simp only [insV, hop]
      rw [show opd k = 0 by unfold opd; rw [if_pos hB, if_pos hA]]
      simp [args, ha0 hA, hb0 hB]
  · by_cases hB : (sp k).b = 0
    · refine ⟨[itoa a], ?_, ?_⟩
      · rw [if_pos (by simpa using hA), if_neg (by simpa using hB), List.append_nil, wl_word n1 n3, wl_one i1 (itoa_nn a)]
      · simp only [insV, hop]
        rw [show opd k = 1 by unfold opd; rw [if_pos hB, if_neg hA]]
        simp [args, na, hb0 hB]
    · refine ⟨[itoa a, itoa b], ?_, ?_⟩
      · rw [if_pos (by simpa using hA), if_pos (by simpa using hB), List.cons_append, wl_word n1 n3, wl_word i1 (itoa_nn a), wl_one i2 (itoa_nn b)]
      · simp only [insV, hop]
        rw [show opd k = 2 by unfold opd; rw [if_neg hB]]
        simp [args, na, nb]
theorem par_map (f : Nat → List UInt8) (g : Nat → I3) : ∀ (L : List Nat) (acc : List I3) (line : Nat), (∀ i ∈ L, ∃ w ws, wl [] (f i) = w :: ws ∧ insV (w :: ws) = some (g i)) → parV (L.map f) acc line = .inr (acc ++ L.map g)
  | [], acc, line, _ => by simp [parV]
  | i :: L, acc, line, h => by
    obtain ⟨w, ws, h1, h2⟩ := h i (by simp)
    have := par_map f g L (acc ++ [g i]) (line + 1) fun j hj => h j (by simp [hj])
    simp only [List.map_cons, parV, h1, h2, this]
    simp
/-- what is written is read back -/
theorem round {c A B dep : Nat → Int} {n : Nat} (hv : ∀ i, i < n → vld (c i) (A i) (B i) false = true) : parV (ll [] (txV c A B dep n)) [] 0 = .inr ((List.range n).map fun i => (c i, A i, B i)) := by
  have hk : ∀ i ∈ List.range n, ∃ k : Nat, c i = (k : Int) ∧ k < 36 ∧ (-2147483648 ≤ A i ∧ A i ≤ 2147483647) ∧ (-2147483648 ≤ B i ∧ B i ≤ 2147483647) ∧ ((sp k).a = 0 → A i = 0) ∧ ((sp k).b = 0 → B i = 0) := fun i hi => vld_facts (hv i (List.mem_range.1 hi))
  unfold txV
  rw [ll_tx _ _ fun i hi => by obtain ⟨k, e, h, -⟩ := hk i hi; rw [e, Int.toNat_natCast]; exact lin_no10 h]
  have := par_map (fun i => linT (dep i).toNat (c i).toNat (A i) (B i)) (fun i => (c i, A i, B i)) (List.range n) [] 0 fun i hi => by
    obtain ⟨k, e, h1, h2, h3, h4, h5⟩ := hk i hi
    obtain ⟨ws, g1, g2⟩ := ins_line (d := (dep i).toNat) h1 h2 h3 h4 h5
    refine ⟨(sp k).n.data.toList, ws, ?_, ?_⟩
    · simp only [e, Int.toNat_natCast]; exact g1
    · simp only [e]; exact g2
  simpa using this
end Cw
end Go.Proofs.YteeljnlepbnhkaaDoor
