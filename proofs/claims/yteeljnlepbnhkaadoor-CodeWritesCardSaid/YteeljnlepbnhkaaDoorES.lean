/- What the reference asks of brackets, said of the search by a stack (plain). -/
import Derived.Test.YteeljnlepbnhkaaDoorEP
import Derived.Test.YteeljnlepbnhkaaDoorEM
set_option linter.unusedVariables false
set_option linter.unusedSimpArgs false
namespace Go.Proofs.YteeljnlepbnhkaaDoor
namespace Ec
theorem okS_fail {c : Nat → Int} {n : Nat} (h : ∀ s', shp c n = some s' → s'.l ≠ []) : okS c n = false := by
  cases hs : shp c n with
  | none => unfold okS; rw [hs]
  | some s => exact okS_no hs (fun q => h s hs (List.length_eq_zero_iff.1 q.1))
theorem PR_fail1 {c : Nat → Int} {n nx : Nat} {d : Int} (h : PR c n 0 nx d) (hd : d < 0) : okS c n = false := by
  rcases h with ⟨_, _, h⟩ | ⟨h, _⟩
  · exact okS_fail (h _ rfl)
  · omega
theorem PR_state {c : Nat → Int} {n nx : Nat} {d : Int} (h : PR c n 0 nx d) (hd : ¬ d < 0) : ∃ s, shp c nx = some s ∧ s.l = [] ∧ (s.m : Int) = d := by
  rcases h with ⟨_, _, h⟩ | ⟨h, h1, h2, h3, h4⟩
  · omega
  · obtain ⟨s', g1, g2, g3, _⟩ := h4 ⟨[], fun _ => 0, fun _ => 0, fun _ => 0, fun _ => 0, 0⟩ rfl
    exact ⟨s', g1, g2, by rw [g3]; simp; omega⟩
theorem PR_fail2 {c : Nat → Int} {n nx : Nat} {d : Int} (h : PR c n 0 nx d) (hd : ¬ d < 0) (hn : (nx : Int) < n) : okS c n = false := by
  obtain ⟨s, h1, h2, _⟩ := PR_state h hd
  rcases h with ⟨_, _, h⟩ | ⟨_, _, _, h3, _⟩
  · omega
  · have hc := h3 (by omega)
    exact shp_bad h1 (stp_none_nil (opn_no.2 (by omega)) hc (by rw [h2]; rfl)) (by omega)
theorem PR_n {c : Nat → Int} {n nx : Nat} {d : Int} (h : PR c n 0 nx d) (hd : ¬ d < 0) (hn : ¬ (nx : Int) < n) : nx = n := by
  rcases h with ⟨_, _, h⟩ | ⟨_, _, _, h3, _⟩ <;> omega
theorem PR_deep {c : Nat → Int} {n nx : Nat} {d : Int} (h : PR c n 0 nx d) (hd : ¬ d < 0) (hn : ¬ (nx : Int) < n) (h6 : 6 < d) : okS c n = false := by
  obtain ⟨s, h1, h2, h3⟩ := PR_state h hd
  rw [PR_n h hd hn] at h1
  exact okS_no h1 (fun q => by omega)
theorem PR_good {c : Nat → Int} {n nx : Nat} {d : Int} (h : PR c n 0 nx d) (hd : ¬ d < 0) (hn : ¬ (nx : Int) < n) (h6 : ¬ 6 < d) : okS c n = true := by
  obtain ⟨s, h1, h2, h3⟩ := PR_state h hd
  rw [PR_n h hd hn] at h1
  exact okS_yes h1 (by rw [h2]; rfl) (by omega)
/-- balanced code and its state -/
structure Bal (c : Nat → Int) (n : Nat) (s : Sh) : Prop where
  hs : shp c n = some s
  hl : s.l = []
  hm : s.m ≤ 6
theorem okS_bal {c : Nat → Int} {n : Nat} (h : okS c n = true) : Bal c n (shD c n) := by
  unfold okS at h
  cases hs : shp c n with
  | none => rw [hs] at h; cases h
  | some s =>
    rw [hs] at h
    simp only [Bool.and_eq_true, List.isEmpty_iff, decide_eq_true_eq] at h
    have e : shD c n = s := by unfold shD; rw [hs]; rfl
    rw [e]; exact ⟨hs, h.1, h.2⟩
theorem PR_deepest {c : Nat → Int} {n nx : Nat} {d : Int} (h : PR c n 0 nx d) (hok : okS c n = true) : d = ((shD c n).m : Int) := by
  have hd : ¬ d < 0 := fun q => by rw [PR_fail1 h q] at hok; cases hok
  have hn : ¬ (nx : Int) < n := fun q => by rw [PR_fail2 h hd q] at hok; cases hok
  obtain ⟨s, h1, h2, h3⟩ := PR_state h hd
  rw [PR_n h hd hn] at h1
  have e : shD c n = s := by unfold shD; rw [h1]; rfl
  rw [e, h3]
section
variable {c : Nat → Int} {n : Nat} {s : Sh}
theorem bra_final (B : Bal c n s) {k e : Nat} {a d : Int} (hk : k < n) (h : BR c n k a e d) : a = s.e k ∧ (e : Int) = s.d k ∧ e < n := by
  obtain ⟨sk, hsk⟩ := shp_back B.hs (Nat.le_of_lt hk)
  rcases h with ⟨_, _, _, h⟩ | ⟨h1, h2, h3, h4⟩
  · exact absurd B.hl (h sk hsk s B.hs)
  · obtain ⟨s', g1, g2, g3, g4, g5, g6⟩ := h4 sk hsk
    have F := frz_at g1 B.hs (show e + 1 ≤ n by omega)
    have hkl : k ∉ s'.l := by rw [g2]; exact fun q => by have := (inv_of k sk hsk).lt k q; omega
    have q := F.out k (by omega) hkl
    exact ⟨by rw [q.2.1, g4], by rw [q.2.2, g5], h3⟩
theorem o_eq (B : Bal c n s) {k : Nat} {sk : Sh} (hk : k < n) (hsk : shp c k = some sk) : s.o k = top sk.l := by
  obtain ⟨s1, h1⟩ := shp_back B.hs (show k + 1 ≤ n by omega)
  obtain ⟨s2, h2, h3⟩ := shp_succ h1
  rw [hsk] at h2; cases h2
  rw [((frz_at h1 B.hs (show k + 1 ≤ n by omega)).o k (by omega)).1]
  rcases stp_inv h3 with ⟨_, rfl⟩ | ⟨_, _, _, rfl⟩ | ⟨_, r, x, _, _, _, rfl⟩ | ⟨_, r, x, _, _, rfl⟩ <;> exact upI_same _ _ _
theorem mem_stack (B : Bal c n s) {k : Nat} {sk : Sh} (hk : k ≤ n) (hsk : shp c k = some sk) (x : Nat) : x ∈ sk.l ↔ (x < k ∧ opn (c x) = true ∧ (k : Int) ≤ s.d x) := by
  have I := inv_of k sk hsk
  have F := frz_at hsk B.hs hk
  constructor
  · intro hx
    refine ⟨I.lt x hx, I.op x hx, ?_⟩
    rcases F.ins x hx with ⟨q, _⟩ | ⟨_, q⟩
    · rw [B.hl] at q; simp at q
    · exact q
  · rintro ⟨h1, h2, h3⟩
    refine Classical.byContradiction fun hx => ?_
    have q := (F.out x h1 hx).2.2
    rcases I.d x h1 with ⟨_, r | r⟩ | ⟨_, r, _⟩
    · exact hx r
    · rw [h2] at r; cases r
    · omega
theorem opener_none (B : Bal c n s) {k : Nat} (hk : k < n) (h : ∀ x, x < k → opn (c x) = true → s.d x < k) : s.o k = -1 := by
  obtain ⟨sk, hsk⟩ := shp_back B.hs (Nat.le_of_lt hk)
  rw [o_eq B hk hsk]
  have : sk.l = [] := List.eq_nil_iff_forall_not_mem.2 fun x hx => by
    have q := (mem_stack B (Nat.le_of_lt hk) hsk x).1 hx
    have := h x q.1 q.2.1
    omega
  rw [this]; rfl
theorem opener_some (B : Bal c n s) {k i : Nat} (hk : k < n) (hi : i < k) (ho : opn (c i) = true) (hd : (k : Int) ≤ s.d i) (h : ∀ x, i < x → x < k → opn (c x) = true → s.d x < k) : s.o k = (i : Int) := by
  obtain ⟨sk, hsk⟩ := shp_back B.hs (Nat.le_of_lt hk)
  rw [o_eq B hk hsk]
  have hil := (mem_stack B (Nat.le_of_lt hk) hsk i).2 ⟨hi, ho, hd⟩
  rcases List.eq_nil_or_concat sk.l with e | ⟨r, x, e⟩
  · rw [e] at hil; simp at hil
  · rw [List.concat_eq_append] at e
    have inc := (inv_of k sk hsk).inc
    rw [e] at inc hil
    have hx := (mem_stack B (Nat.le_of_lt hk) hsk x).1 (by rw [e]; simp)
    rw [e, top_app]
    rcases List.mem_append.1 hil with q | q
    · have h1 := (List.pairwise_append.1 inc).2.2 i q x (by simp)
      have := h x h1 hx.1 hx.2.1
      omega
    · simp at q; rw [q]
theorem opener_in (B : Bal c n s) {k : Nat} (hk : k < n) (h : ¬ s.o k < 0) : ∃ i : Nat, s.o k = (i : Int) ∧ i < k ∧ opn (c i) = true ∧ ∃ sk r, shp c k = some sk ∧ sk.l = r ++ [i] := by
  obtain ⟨sk, hsk⟩ := shp_back B.hs (Nat.le_of_lt hk)
  rw [o_eq B hk hsk] at h ⊢
  rcases List.eq_nil_or_concat sk.l with e | ⟨r, x, e⟩
  · rw [e] at h; exact absurd (show top [] < 0 by decide) h
  · rw [List.concat_eq_append] at e
    have hx := (mem_stack B (Nat.le_of_lt hk) hsk x).1 (by rw [e]; simp)
    exact ⟨x, by rw [e, top_app], hx.1, hx.2.1, sk, r, hsk, e⟩
theorem d_range (B : Bal c n s) {k : Nat} (hk : k < n) (ho : opn (c k) = true) : (k : Int) < s.d k ∧ s.d k < n ∧ c (s.d k).toNat = 35 := by
  rcases (inv_of n s B.hs).d k hk with ⟨_, q | q⟩ | ⟨q1, q2, q3, _⟩
  · rw [B.hl] at q; simp at q
  · rw [ho] at q; cases q
  · exact ⟨q1, q2, q3⟩
theorem pre_stack {k : Nat} {sk : Sh} (hsk : shp c k = some sk) (ho : opn (c k) = true) : ∀ (i : Nat) (sj : Sh), shp c (k + 1 + i) = some sj → k ∈ sj.l → ∃ r, sj.l = (sk.l ++ [k]) ++ r
  | 0, sj, h, hk => by
    have h1 := shp_open hsk ho
    have h' : shp c (k + 1) = some sj := h
    rw [h1] at h'; cases h'
    exact ⟨[], by simp [oped]⟩
  | i + 1, sj, h, hk => by
    obtain ⟨s1, h1, h2⟩ := shp_succ (k := k + 1 + i) h
    have I := inv_of _ _ h1
    rcases stp_inv h2 with ⟨_, rfl⟩ | ⟨_, _, _, rfl⟩ | ⟨_, r, x, _, _, _, rfl⟩ | ⟨_, r, x, hl, _, rfl⟩
    · have hk' : k ∈ s1.l := by
        rcases List.mem_append.1 hk with q | q
        · exact q
        · simp at q; omega
      obtain ⟨r, hr⟩ := pre_stack hsk ho i s1 h1 hk'
      exact ⟨r ++ [k + 1 + i], by show s1.l ++ _ = _; rw [hr]; simp⟩
    · exact pre_stack hsk ho i s1 h1 hk
    · exact pre_stack hsk ho i s1 h1 hk
    · have hkr : k ∈ r := hk
      obtain ⟨r2, hr⟩ := pre_stack hsk ho i s1 h1 (by rw [hl]; exact List.mem_append_left _ hkr)
      have inc := I.inc
      rw [hl] at hr inc
      rcases List.eq_nil_or_concat r2 with e | ⟨r3, y, e⟩
      · rw [e, List.append_nil] at hr
        have := List.append_inj_right' hr rfl
        simp at this
        have := (List.pairwise_append.1 inc).2.2 k hkr x (by simp)
        omega
      · rw [List.concat_eq_append] at e
        rw [e, ← List.append_assoc] at hr
        exact ⟨r3, List.append_inj_left' hr rfl⟩
/-- the end of an opening lies in front of the end of the opening around it -/
theorem outer_end (B : Bal c n s) {k i : Nat} (hk : k < n) (ho : opn (c k) = true) (h : s.o k = (i : Int)) : i < k ∧ opn (c i) = true ∧ s.d k < s.d i := by
  obtain ⟨i', h1, h2, h3, sk, r, hsk, hr⟩ := opener_in B hk (by omega)
  obtain rfl : i = i' := by omega
  refine ⟨h2, h3, ?_⟩
  obtain ⟨d1, d2, d3⟩ := d_range B hk ho
  obtain ⟨e, he⟩ : ∃ e : Nat, s.d k = (e : Int) := ⟨(s.d k).toNat, by omega⟩
  rw [he] at d1 d2 d3 ⊢
  obtain ⟨se, hse⟩ := shp_back B.hs (show e ≤ n by omega)
  obtain ⟨s1, hs1⟩ := shp_back B.hs (show e + 1 ≤ n by omega)
  have hkm := (mem_stack B (show e ≤ n by omega) hse k).2 ⟨by omega, ho, by omega⟩
  obtain ⟨r2, hr2⟩ := pre_stack hsk ho (e - (k + 1)) se (by rw [show k + 1 + (e - (k + 1)) = e by omega]; exact hse) hkm
  obtain ⟨s2, g1, g2⟩ := shp_succ hs1
  rw [hse] at g1; cases g1
  have h35 : c e = 35 := by simpa using d3
  have hin : i ∈ s1.l := by
    rcases stp_inv g2 with ⟨q, _⟩ | ⟨_, _, q, _⟩ | ⟨q, _⟩ | ⟨_, r3, x, hl, _, rfl⟩
    · rw [opn_iff] at q; omega
    · exact absurd h35 q
    · omega
    · have inc := (inv_of e se hse).inc
      show i ∈ r3
      have him : i ∈ se.l := by rw [hr2, hr]; simp
      have hkx : k ≤ x := by
        rw [hl] at inc hkm
        rcases List.mem_append.1 hkm with q | q
        · have := (List.pairwise_append.1 inc).2.2 k q x (by simp); omega
        · simp at q; omega
      rw [hl] at him
      rcases List.mem_append.1 him with q | q
      · exact q
      · simp at q; omega
  have := ((mem_stack B (show e + 1 ≤ n by omega) hs1 i).1 hin).2.2
  omega
/-! Depths. -/
def cnt (c : Nat → Int) (s : Sh) : Nat → Nat → Int
  | 0, _ => 0
  | i + 1, k => cnt c s i k + if opn (c i) = true ∧ i < k ∧ (k : Int) < s.d i ∧ (k : Int) ≠ s.e i then 1 else 0
def cntP (Q : Nat → Bool) : Nat → Int
  | 0 => 0
  | i + 1 => cntP Q i + if Q i = true then 1 else 0
theorem cntP_congr {Q R : Nat → Bool} : ∀ n, (∀ x, x < n → Q x = R x) → cntP Q n = cntP R n
  | 0, _ => rfl
  | n + 1, h => by show cntP Q n + _ = cntP R n + _; rw [cntP_congr n (fun x hx => h x (by omega)), h n (by omega)]
theorem cntP_list (Q : Nat → Bool) : ∀ (n : Nat) (l : List Nat), l.Pairwise (· < ·) → (∀ x, x ∈ l → x < n) → cntP (fun x => l.contains x && Q x) n = ((l.filter Q).length : Int)
  | 0, l, _, h => by
    have : l = [] := List.eq_nil_iff_forall_not_mem.2 fun x hx => by have := h x hx; omega
    subst this; rfl
  | n + 1, l, inc, h => by
    by_cases hn : n ∈ l
    · rcases List.eq_nil_or_concat l with e | ⟨r, x, e⟩
      · rw [e] at hn; simp at hn
      · rw [List.concat_eq_append] at e
        subst e
        have hx := h x (by simp)
        have hp := List.pairwise_append.1 inc
        obtain rfl : x = n := by
          rcases List.mem_append.1 hn with q | q
          · have := hp.2.2 n q x (by simp); omega
          · simp at q; exact q.symm
        have hr : ∀ y, y ∈ r → y < x := fun y hy => hp.2.2 y hy x (by simp)
        have ih := cntP_list Q x r hp.1 hr
        show cntP _ x + (if ((r ++ [x]).contains x && Q x) = true then 1 else 0) = _
        rw [cntP_congr x (R := fun y => r.contains y && Q y) (fun y hy => by
          have : ¬ y = x := by omega
          simp [this]), ih, List.filter_append]
        cases hq : Q x <;> simp [hq]
    · have hl : ∀ x, x ∈ l → x < n := fun x hx => by
        have := h x hx
        have : x ≠ n := fun q => hn (q ▸ hx)
        omega
      show cntP _ n + (if (l.contains n && Q n) = true then 1 else 0) = _
      rw [cntP_list Q n l inc hl, if_neg (by simp [hn])]; simp
theorem cnt_cut {k : Nat} : ∀ m, k ≤ m → cnt c s m k = cnt c s k k
  | 0, h => by obtain rfl : k = 0 := by omega
               rfl
  | m + 1, h => by
    by_cases e : k = m + 1
    · rw [e]
    · show cnt c s m k + _ = _
      rw [cnt_cut m (by omega), if_neg (by omega)]; simp
theorem cnt_P {k : Nat} : ∀ m, m ≤ k → cnt c s m k = cntP (fun x => decide (opn (c x) = true ∧ x < k ∧ (k : Int) < s.d x ∧ (k : Int) ≠ s.e x)) m
  | 0, _ => rfl
  | m + 1, h => by
    show cnt c s m k + _ = cntP _ m + _
    rw [cnt_P m (by omega)]
    by_cases q : opn (c m) = true ∧ m < k ∧ (k : Int) < s.d m ∧ (k : Int) ≠ s.e m
    · rw [if_pos q, if_pos (by simpa using q)]
    · rw [if_neg q, if_neg (by simpa using q)]
/-- the depth of an instruction -/
theorem cnt_stack (B : Bal c n s) {k : Nat} {sk : Sh} (hk : k < n) (hsk : shp c k = some sk) : cnt c s n k = ((sk.l.filter fun x => decide ((k : Int) < s.d x ∧ (k : Int) ≠ s.e x)).length : Int) := by
  have I := inv_of k sk hsk
  rw [cnt_cut n (by omega), cnt_P k (Nat.le_refl k), ← cntP_list _ k sk.l I.inc I.lt]
  refine cntP_congr k fun x hx => ?_
  have M := mem_stack B (Nat.le_of_lt hk) hsk x
  by_cases hm : x ∈ sk.l
  · have := M.1 hm
    simp [hm, this.2.1, hx]
  · have hno : ¬ (opn (c x) = true ∧ x < k ∧ (k : Int) < s.d x ∧ (k : Int) ≠ s.e x) := fun q => hm (M.2 ⟨hx, q.1, by omega⟩)
    rw [decide_eq_false hno]
    simp [hm]
theorem filter_all {l : List Nat} {Q : Nat → Bool} (h : ∀ x, x ∈ l → Q x = true) : l.filter Q = l := List.filter_eq_self.2 h
/-- what the search lays as the depth, and how the stack goes on -/
theorem t_step (B : Bal c n s) {k : Nat} {sk : Sh} (hk : k < n) (hsk : shp c k = some sk) : ∃ s1, shp c (k + 1) = some s1 ∧ cnt c s n k = s.t k ∧ s.m ≥ sk.l.length ∧
    ((c k ≠ 34 ∧ c k ≠ 35 ∧ s.t k = (sk.l.length : Int) ∧ ((opn (c k) = true ∧ s1.l.length = sk.l.length + 1) ∨ s1.l.length = sk.l.length)) ∨
     (c k = 34 ∧ s.t k = (sk.l.length : Int) - 1 ∧ 1 ≤ sk.l.length ∧ s1.l.length = sk.l.length) ∨
     (c k = 35 ∧ s.t k = (sk.l.length : Int) - 1 ∧ 1 ≤ sk.l.length ∧ s1.l.length + 1 = sk.l.length)) := by
  obtain ⟨s1, h1⟩ := shp_back B.hs (show k + 1 ≤ n by omega)
  obtain ⟨s2, h2, h3⟩ := shp_succ h1
  rw [hsk] at h2; cases h2
  have I := inv_of k sk hsk
  have IN := inv_of n s B.hs
  have F := frz_at h1 B.hs (show k + 1 ≤ n by omega)
  have F0 := frz_at hsk B.hs (Nat.le_of_lt hk)
  have ht := (F.o k (by omega)).2
  have hm : s.m ≥ sk.l.length := Nat.le_trans I.le F0.m
  have hd : ∀ x, x ∈ sk.l → (k : Int) ≤ s.d x ∧ (c k ≠ 35 → (k : Int) < s.d x) ∧ (c k ≠ 34 → (k : Int) ≠ s.e x) := fun x hx => by
    have M := (mem_stack B (Nat.le_of_lt hk) hsk x).1 hx
    obtain ⟨d1, d2, d3⟩ := d_range B (show x < n by omega) M.2.1
    refine ⟨M.2.2, fun q => ?_, fun q r => ?_⟩
    · rcases Int.lt_or_eq_of_le M.2.2 with z | z
      · exact z
      · rw [← z] at d3; exact absurd (by simpa using d3) q
    · rcases IN.e x (by omega) with z | ⟨_, _, z⟩
      · omega
      · rw [← r] at z; exact absurd (by simpa using z) q
  refine ⟨s1, h1, ?_, hm, ?_⟩
  · rw [cnt_stack B hk hsk, ht]
    rcases stp_inv h3 with ⟨ho, rfl⟩ | ⟨_, h4, h5, rfl⟩ | ⟨h4, r, x, hl, h6, h7, rfl⟩ | ⟨h5, r, x, hl, h6, rfl⟩
    · rw [opn_iff] at ho
      rw [filter_all fun x hx => decide_eq_true ⟨(hd x hx).2.1 (by omega), (hd x hx).2.2 (by omega)⟩]
      exact (upI_same _ _ _).symm
    · rw [filter_all fun x hx => decide_eq_true ⟨(hd x hx).2.1 h5, (hd x hx).2.2 h4⟩]
      exact (upI_same _ _ _).symm
    · have inc := I.inc
      rw [hl] at inc
      have hp := (List.pairwise_append.1 inc).2.2
      have hxk := I.lt x (by rw [hl]; simp)
      have ex : s.e x = (k : Int) := by
        have q := F.e x (by omega)
        have e1 : (upI (upI sk.e k (-1)) x (k : Int)) x = (k : Int) := upI_same _ _ _
        rcases q with q | ⟨q, _⟩
        · exact q.trans e1
        · have q' : (upI (upI sk.e k (-1)) x (k : Int)) x < 0 := q
          omega
      have ey : ∀ y, y ∈ r → (k : Int) ≠ s.e y := fun y hy => by
        have hyx := hp y hy x (by simp)
        have e1 : (upI (upI sk.e k (-1)) x (k : Int)) y = sk.e y := by rw [upI_ne (by omega), upI_ne (by omega)]
        have e2 := I.e y (by omega)
        rcases F.e y (by omega) with q | ⟨_, q⟩
        · have q' : s.e y = (upI (upI sk.e k (-1)) x (k : Int)) y := q
          rw [q', e1]
          rcases e2 with z | ⟨_, z, _⟩ <;> omega
        · omega
      show (((sk.l).filter _).length : Int) = upI (upI sk.t k _) k _ k
      rw [upI_same, hl, List.filter_append, filter_all (l := r) fun y hy => decide_eq_true ⟨(hd y (by rw [hl]; exact List.mem_append_left _ hy)).2.1 (by omega), ey y hy⟩]
      simp [ex]
    · have inc := I.inc
      rw [hl] at inc
      have hp := (List.pairwise_append.1 inc).2.2
      have hxk := I.lt x (by rw [hl]; simp)
      have hxr : x ∉ r := fun q => by have := hp x q x (by simp); omega
      have dx : s.d x = (k : Int) := by
        have q := (F.out x (by omega) hxr).2.2
        exact q.trans (upI_same _ _ _)
      have dy : ∀ y, y ∈ r → (k : Int) < s.d y := fun y hy => by
        have := ((mem_stack B (show k + 1 ≤ n by omega) h1 y).1 hy).2.2
        omega
      show (((sk.l).filter _).length : Int) = upI (upI sk.t k _) k _ k
      rw [upI_same, hl, List.filter_append, filter_all (l := r) fun y hy => decide_eq_true ⟨dy y hy, (hd y (by rw [hl]; exact List.mem_append_left _ hy)).2.2 (by omega)⟩]
      simp [dx]
  · rw [ht]
    rcases stp_inv h3 with ⟨ho, rfl⟩ | ⟨_, h4, h5, rfl⟩ | ⟨h4, r, x, hl, h6, h7, rfl⟩ | ⟨h5, r, x, hl, h6, rfl⟩
    · have := opn_iff.1 ho
      exact .inl ⟨by omega, by omega, upI_same _ _ _, .inl ⟨ho, by simp⟩⟩
    · exact .inl ⟨h4, h5, upI_same _ _ _, .inr rfl⟩
    · exact .inr (.inl ⟨h4, upI_same _ _ _, by rw [hl]; simp, rfl⟩)
    · exact .inr (.inr ⟨h5, upI_same _ _ _, by rw [hl]; simp, by rw [hl]; simp⟩)
theorem t_range (B : Bal c n s) {k : Nat} (hk : k < n) : 0 ≤ s.t k ∧ s.t k ≤ s.m := by
  obtain ⟨sk, hsk⟩ := shp_back B.hs (Nat.le_of_lt hk)
  obtain ⟨s1, h1, h2, h3, h4⟩ := t_step B hk hsk
  rcases h4 with ⟨_, _, q, _⟩ | ⟨_, q, q2, _⟩ | ⟨_, q, q2, _⟩ <;> omega
theorem t_next (B : Bal c n s) {k : Nat} (hk : k + 1 < n) : s.t (k + 1) - s.t k ≤ 1 ∧ s.t k - s.t (k + 1) ≤ 1 := by
  obtain ⟨sk, hsk⟩ := shp_back B.hs (show k ≤ n by omega)
  obtain ⟨s1, h1, h2, h3, h4⟩ := t_step B (show k < n by omega) hsk
  obtain ⟨s2, g1, g2, g3, g4⟩ := t_step B hk h1
  rcases h4 with ⟨_, _, q, ⟨_, q2⟩ | q2⟩ | ⟨_, q, q1, q2⟩ | ⟨_, q, q1, q2⟩ <;> rcases g4 with ⟨_, _, z, _⟩ | ⟨_, z, z1, _⟩ | ⟨_, z, z1, _⟩ <;> omega
theorem t_first (B : Bal c n s) (hn : 0 < n) : s.t 0 = 0 := by
  obtain ⟨s1, h1, h2, h3, h4⟩ := t_step B hn (sk := ⟨[], fun _ => 0, fun _ => 0, fun _ => 0, fun _ => 0, 0⟩) rfl
  rcases h4 with ⟨_, _, q, _⟩ | ⟨_, q, q1, _⟩ | ⟨_, q, q1, _⟩
  · simpa using q
  · simp at q1
  · simp at q1
theorem t_last (B : Bal c n s) {k : Nat} (hk : k + 1 = n) : s.t k = 0 := by
  obtain ⟨sk, hsk⟩ := shp_back B.hs (show k ≤ n by omega)
  obtain ⟨s1, h1, h2, h3, h4⟩ := t_step B (show k < n by omega) hsk
  rw [hk, B.hs] at h1; cases h1
  rw [B.hl] at h4
  simp only [List.length_nil] at h4
  rcases h4 with ⟨_, _, q, ⟨_, q2⟩ | q2⟩ | ⟨_, q, q1, q2⟩ | ⟨_, q, q1, q2⟩ <;> omega
end
end Ec
end Go.Proofs.YteeljnlepbnhkaaDoor
