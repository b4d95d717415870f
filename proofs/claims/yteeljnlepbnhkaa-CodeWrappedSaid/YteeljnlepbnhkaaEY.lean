/- A code in a lock, by the search (plain). -/
import Derived.Test.YteeljnlepbnhkaaEX
set_option linter.unusedVariables false
set_option linter.unusedSimpArgs false
namespace Go.Proofs.Yteeljnlepbnhkaa
namespace Ec
/-- the code in the bracket -/
def wrp (a z : Int) (n : Nat) (c : Nat → Int) : Nat → Int := fun i => match i with
  | 0 => a
  | i + 1 => if i < n then c i else z
theorem wrp_in {a z : Int} {n i : Nat} {c : Nat → Int} (h : i < n) : wrp a z n c (i + 1) = c i := by show (if i < n then c i else z) = c i; rw [if_pos h]
theorem wrp_out {a z : Int} {n : Nat} {c : Nat → Int} : wrp a z n c (n + 1) = z := by show (if n < n then c n else z) = z; rw [if_neg (by omega)]
/-- the two searches -/
structure Sim (k : Nat) (s s' : Sh) : Prop where
  l : s'.l = 0 :: s.l.map (· + 1)
  m : s'.m = s.m + 1
  e0 : s'.e 0 = -1
  e : ∀ x, x < k → (s'.e (x + 1) < 0 ↔ s.e x < 0)
theorem last_map {l : List Nat} {x : Nat} (h : (l.map (· + 1)).getLast? = some x) : ∃ y, l.getLast? = some y ∧ x = y + 1 := by
  rw [List.getLast?_map] at h
  cases hl : l.getLast? with
  | none => rw [hl] at h; cases h
  | some y => rw [hl] at h; simp at h; exact ⟨y, rfl, h.symm⟩
theorem last_cons {r : List Nat} {y : Nat} : (0 :: (r ++ [y]).map (· + 1)).getLast? = some (y + 1) := by
  have e : 0 :: (r ++ [y]).map (· + 1) = (0 :: r.map (· + 1)) ++ [y + 1] := by simp
  rw [e]; exact last_app
theorem cons_drop {r : List Nat} {y : Nat} : (0 :: (r ++ [y]).map (· + 1)).dropLast = 0 :: r.map (· + 1) := by
  have e : 0 :: (r ++ [y]).map (· + 1) = (0 :: r.map (· + 1)) ++ [y + 1] := by simp
  rw [e]; exact List.dropLast_concat
theorem sim_step {n : Nat} {c : Nat → Int} {a z : Int} {k : Nat} {s s' s1 : Sh} (hk : k < n) (I : Inv c k s) (S : Sim k s s') (h : stp c k s = some s1) : ∃ s1', stp (wrp a z n c) (k + 1) s' = some s1' ∧ Sim (k + 1) s1 s1' := by
  have hc : wrp a z n c (k + 1) = c k := wrp_in hk
  have hlen : s'.l.length = s.l.length + 1 := by rw [S.l]; simp
  have hle := I.le
  have he : ∀ x, x < k + 1 → (upI s'.e (k + 1) (-1) (x + 1) < 0 ↔ upI s.e k (-1) x < 0) := fun x hx => by
    by_cases q : x = k
    · subst q; rw [upI_same, upI_same]
    · rw [upI_ne (by omega), upI_ne q]; exact S.e x (by omega)
  rcases stp_inv h with ⟨ho, rfl⟩ | ⟨ho, h4, h5, rfl⟩ | ⟨h4, r, x, hl, h2, hx, rfl⟩ | ⟨h5, r, x, hl, h2, rfl⟩
  · refine ⟨_, by unfold stp; simp only []; rw [if_pos (by rw [hc]; exact ho)], ?_, ?_, ?_, he⟩
    · show s'.l ++ [k + 1] = 0 :: (s.l ++ [k]).map (· + 1)
      rw [S.l]; simp
    · show max s'.m (s'.l.length + 1) = max s.m (s.l.length + 1) + 1
      rw [hlen, S.m]; omega
    · show upI s'.e (k + 1) (-1) 0 = -1
      rw [upI_ne (by omega)]; exact S.e0
  · refine ⟨_, stp_other (by rw [hc]; exact ho) (by rw [hc]; exact h4) (by rw [hc]; exact h5), S.l, S.m, ?_, he⟩
    show upI s'.e (k + 1) (-1) 0 = -1
    rw [upI_ne (by omega)]; exact S.e0
  · have hxk := I.lt x (by rw [hl]; simp)
    have hx1 : wrp a z n c (x + 1) = c x := wrp_in (by omega)
    have q := stp_else_ok (c := wrp a z n c) (k := k + 1) (s := s') (x := x + 1) (by rw [hc, h4]; rfl) (by rw [hc]; exact h4) (by rw [S.l, hl]; exact last_cons) (by unfold two; rw [hx1]; exact h2) ((he x (by omega)).2 hx)
    refine ⟨_, q, S.l, S.m, ?_, ?_⟩
    · show upI (upI s'.e (k + 1) (-1)) (x + 1) ((k + 1 : Nat) : Int) 0 = -1
      rw [upI_ne (by omega), upI_ne (by omega)]; exact S.e0
    · intro y hy
      show upI (upI s'.e (k + 1) (-1)) (x + 1) ((k + 1 : Nat) : Int) (y + 1) < 0 ↔ upI (upI s.e k (-1)) x (k : Int) y < 0
      by_cases e : y = x
      · subst e; rw [upI_same, upI_same]; omega
      · rw [upI_ne (by omega), upI_ne e]; exact he y hy
  · have hxk := I.lt x (by rw [hl]; simp)
    have hx1 : wrp a z n c (x + 1) = c x := wrp_in (by omega)
    have q := stp_end_ok (c := wrp a z n c) (k := k + 1) (s := s') (x := x + 1) (by rw [hc, h5]; rfl) (by rw [hc]; exact h5) (by rw [S.l, hl]; exact last_cons) (fun q => h2 ⟨by rw [← hx1]; exact q.1, (he x (by omega)).1 q.2⟩)
    refine ⟨_, q, ?_, S.m, ?_, he⟩
    · show s'.l.dropLast = 0 :: r.map (· + 1)
      rw [S.l, hl]; exact cons_drop
    · show upI s'.e (k + 1) (-1) 0 = -1
      rw [upI_ne (by omega)]; exact S.e0
theorem sim_first {n : Nat} {c : Nat → Int} : ∃ s', shp (wrp 31 35 n c) 1 = some s' ∧ Sim 0 ⟨[], fun _ => 0, fun _ => 0, fun _ => 0, fun _ => 0, 0⟩ s' :=
  ⟨_, shp_open (c := wrp 31 35 n c) (k := 0) rfl rfl, rfl, rfl, rfl, fun x hx => by omega⟩
theorem sim {n : Nat} {c : Nat → Int} : ∀ (k : Nat) (s : Sh), k ≤ n → shp c k = some s → ∃ s', shp (wrp 31 35 n c) (k + 1) = some s' ∧ Sim k s s'
  | 0, s, _, h => by
    simp only [shp, Option.some.injEq] at h; subst h
    exact sim_first
  | k + 1, s1, hk, h => by
    obtain ⟨s, hs, hst⟩ := shp_succ h
    obtain ⟨s', h1, h2⟩ := sim (n := n) (c := c) k s (by omega) hs
    obtain ⟨s1', g1, g2⟩ := sim_step (a := 31) (z := 35) (show k < n by omega) (inv_of k s hs) h2 hst
    exact ⟨s1', shp_step h1 g1, g2⟩
/-- the whole -/
theorem sim_end {n : Nat} {c : Nat → Int} {s : Sh} (hs : shp c n = some s) (hl : s.l = []) : ∃ w, shp (wrp 31 35 n c) (n + 2) = some w ∧ w.l = [] ∧ w.m = s.m + 1 ∧ w.e 0 = -1 ∧ w.d 0 = ((n + 1 : Nat) : Int) := by
  obtain ⟨s', h1, S⟩ := sim n s (Nat.le_refl n) hs
  have hl' : s'.l = [0] := by rw [S.l, hl]; rfl
  have q := stp_end_ok (c := wrp 31 35 n c) (k := n + 1) (s := s') (x := 0) (by rw [wrp_out]; rfl) wrp_out (by rw [hl']; rfl) (fun q => by have q1 : (31 : Int) = 33 := q.1; omega)
  refine ⟨_, shp_step h1 q, ?_, S.m, ?_, ?_⟩
  · show s'.l.dropLast = []
    rw [hl']; rfl
  · show upI s'.e (n + 1) (-1) 0 = -1
    rw [upI_ne (by omega)]; exact S.e0
  · show upI (upI s'.d (n + 1) (-1)) 0 ((n + 1 : Nat) : Int) 0 = _
    exact upI_same _ _ _
theorem vl6 : vld 31 0 0 false = true ∧ vld 31 1 0 false = true ∧ vld 31 2 0 false = true ∧ vld 31 3 0 false = true ∧ vld 31 4 0 false = true ∧ vld 31 5 0 false = true := ⟨by kernel_rfl, by kernel_rfl, by kernel_rfl, by kernel_rfl, by kernel_rfl, by kernel_rfl⟩
theorem vld_lock {a : Int} (h0 : 0 ≤ a) (h1 : a < 6) : vld 31 a 0 false = true := by
  have hc : a = 0 ∨ a = 1 ∨ a = 2 ∨ a = 3 ∨ a = 4 ∨ a = 5 := by omega
  obtain ⟨q0, q1, q2, q3, q4, q5⟩ := vl6
  rcases hc with rfl | rfl | rfl | rfl | rfl | rfl <;> assumption
theorem vld_end : vld 35 0 0 false = true := by kernel_rfl
theorem lit_own {w : World} {b : Nat} {x y z : Value} (h : Fw.Ent.holds w (.cel b #[x, y, z] 23)) : Fw.Ent.holds w (.own (Fw.vS b 1 1) 1 [x, y, z] 23 3) :=
  ⟨rfl, .inr ⟨b, 1, #[x, y, z], rfl, Nat.zero_le _, h, Nat.le_refl _, by unfold maxLen; omega, rfl, rfl⟩⟩
theorem wrp_1 {n : Nat} {c A B : Nat → Int} {lock : Int} : [Fw.vI 31, Fw.vI lock, Fw.vI 0] ++ insL c A B n = insL (wrp 31 35 n c) (wrp lock 0 n A) (wrp 0 0 n B) (n + 1) :=
  insL_cons _ _ _ _ _ _ _ _ _ _ (fun i hi => ⟨wrp_in hi, wrp_in hi, wrp_in hi⟩) ⟨rfl, rfl, rfl⟩
theorem wrp_2 {n : Nat} {c A B : Nat → Int} {lock : Int} : insL (wrp 31 35 n c) (wrp lock 0 n A) (wrp 0 0 n B) (n + 1) ++ [Fw.vI 35, Fw.vI 0, Fw.vI 0] = insL (wrp 31 35 n c) (wrp lock 0 n A) (wrp 0 0 n B) (n + 2) :=
  insL_push _ _ _ _ _ _ _ _ _ _ (fun i hi => ⟨rfl, rfl, rfl⟩) ⟨wrp_out, wrp_out, wrp_out⟩
section
variable {n : Nat} {c A B : Nat → Int} {lock : Int}
theorem wrp_all (h0 : 0 ≤ lock) (h1 : lock < 6) (h : allV c A B false n = true) : ∀ i, i < n + 2 → vld (wrp 31 35 n c i) (wrp lock 0 n A i) (wrp 0 0 n B i) false = true := fun i hi => by
  match i with
  | 0 => exact vld_lock h0 h1
  | i + 1 =>
    by_cases q : i < n
    · rw [wrp_in q, wrp_in q, wrp_in q]; exact allV_spec.1 h i q
    · obtain rfl : i = n := by omega
      rw [wrp_out, wrp_out, wrp_out]; exact vld_end
theorem wrp_chk (hn : n ≤ 118) (h0 : 0 ≤ lock) (h1 : lock < 6) (h : chk c A B false n = 0) :
    chk (wrp 31 35 n c) (wrp lock 0 n A) (wrp 0 0 n B) false (n + 2) = (if (shD c n).m = 6 then 7 else 0) := by
  have hb := chk_bal h
  obtain ⟨w, hw, wl, wm, _, _⟩ := sim_end hb.hs hb.hl
  have hv := wrp_all h0 h1 (chk_ok h).2.1
  by_cases q : (shD c n).m = 6
  · rw [if_pos q]; exact chk_7 (by omega) hv (okS_no hw (by omega))
  · rw [if_neg q]; exact chk_0 (by omega) hv (okS_yes hw (by rw [wl]; rfl) (by have := hb.hm; omega))
/-- what the whole answers -/
theorem wrp_ans (hn : n ≤ 118) (h0 : 0 ≤ lock) (h1 : lock < 6) (h : chk c A B false n = 0) (h6 : ¬ (shD c n).m = 6) :
    chk (wrp 31 35 n c) (wrp lock 0 n A) (wrp 0 0 n B) false (n + 2) = 0 ∧ dpD (wrp 31 35 n c) (wrp lock 0 n A) (wrp 0 0 n B) (n + 2) = dpD c A B n + 1 ∧
    maF (wrp 31 35 n c) (wrp lock 0 n A) (wrp 0 0 n B) (n + 2) 0 = 0 ∧ maA (wrp 31 35 n c) (wrp lock 0 n A) (wrp 0 0 n B) (n + 2) 0 = -1 ∧ maE (wrp 31 35 n c) (wrp lock 0 n A) (wrp 0 0 n B) (n + 2) 0 = ((n + 1 : Nat) : Int) := by
  have hb := chk_bal h
  obtain ⟨w, hw, wl, wm, we, wd⟩ := sim_end hb.hs hb.hl
  have hD : shD (wrp 31 35 n c) (n + 2) = w := by unfold shD; rw [hw]; rfl
  have hck := wrp_chk hn h0 h1 h
  rw [if_neg h6] at hck
  have hf : maF (wrp 31 35 n c) (wrp lock 0 n A) (wrp 0 0 n B) (n + 2) 0 = 0 := by
    unfold maF; rw [idE_in hck (by omega), if_neg (by simp), if_neg (by show ¬ opn 31 = false; decide)]
  refine ⟨hck, ?_, hf, ?_, ?_⟩
  · rw [dp_ok hck, dp_ok h, hD, wm]; omega
  · unfold maA; rw [if_pos hf, hD]; exact we
  · unfold maE; rw [if_pos hf, hD]; exact wd
theorem wrp_op (hn : n ≤ 118) (h0 : 0 ≤ lock) (h1 : lock < 6) (h : chk c A B false n = 0) (h6 : ¬ (shD c n).m = 6) {k : Nat} (hk : k < n) :
    opF (wrp 31 35 n c) (wrp lock 0 n A) (wrp 0 0 n B) (n + 2) ((k : Int) + 1) = 0 ∧ ((opF c A B n (k : Int) = 3 ∧ opO (wrp 31 35 n c) (wrp lock 0 n A) (wrp 0 0 n B) (n + 2) ((k : Int) + 1) = 0) ∨
      (opF c A B n (k : Int) = 0 ∧ 0 ≤ opO c A B n (k : Int) ∧ opO c A B n (k : Int) < n ∧ opO (wrp 31 35 n c) (wrp lock 0 n A) (wrp 0 0 n B) (n + 2) ((k : Int) + 1) = opO c A B n (k : Int) + 1)) := by
  have hb := chk_bal h
  have hck := wrp_chk hn h0 h1 h
  rw [if_neg h6] at hck
  have hbw := chk_bal hck
  obtain ⟨sk, hsk⟩ := shp_back hb.hs (Nat.le_of_lt hk)
  obtain ⟨sk', hsk', S⟩ := sim k sk (Nat.le_of_lt hk) hsk
  have o1 := o_eq hb hk hsk
  have o2 := o_eq hbw (show k + 1 < n + 2 by omega) hsk'
  have hid := idE_in (at' := ((k + 1 : Nat) : Int)) hck (by omega)
  have hid0 := idE_in (at' := (k : Int)) h (by omega)
  rw [show ((k : Int) + 1) = ((k + 1 : Nat) : Int) by omega]
  rcases List.eq_nil_or_concat sk.l with e | ⟨r, x, e⟩
  · have t1 : (shD c n).o k < 0 := by rw [o1, e]; decide
    have t2 : (shD (wrp 31 35 n c) (n + 2)).o (k + 1) = 0 := by rw [o2, S.l, e]; rfl
    have q1 := op_none hid0 t1
    have q2 := op_ok hid (by rw [t2]; decide)
    exact ⟨q2.1, .inl ⟨q1.1, by rw [q2.2, t2]⟩⟩
  · rw [List.concat_eq_append] at e
    have t1 : (shD c n).o k = (x : Int) := by rw [o1, e, top_app]
    have t2 : (shD (wrp 31 35 n c) (n + 2)).o (k + 1) = ((x + 1 : Nat) : Int) := by rw [o2, S.l, e]; unfold top; rw [last_cons]
    have hx := (inv_of k sk hsk).lt x (by rw [e]; simp)
    have q1 := op_ok hid0 (by rw [t1]; omega)
    have q2 := op_ok hid (by rw [t2]; omega)
    exact ⟨q2.1, .inr ⟨q1.1, by rw [q1.2, t1]; omega, by rw [q1.2, t1]; omega, by rw [q1.2, q2.2, t1, t2]; omega⟩⟩
end
end Ec
end Go.Proofs.Yteeljnlepbnhkaa
