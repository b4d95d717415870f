/- Trim and Count, of the program and of the reference. -/
import Derived.Test.YteeljnlepbnhkaaEZ
set_option linter.unusedVariables false
set_option linter.unusedSimpArgs false
namespace Go.Proofs.Yteeljnlepbnhkaa
open Go.RowKit Fw
namespace Ec
theorem fil_push {c A B : Nat → Int} {k : Nat} (h : c k ≠ 0) : insL (fil c k c) (fil c k A) (fil c k B) (rk c k) ++ [vI (c k), vI (A k), vI (B k)] = insL (fil c (k + 1) c) (fil c (k + 1) A) (fil c (k + 1) B) (rk c (k + 1)) := by
  rw [rk_yes h]
  exact insL_push _ _ _ _ _ _ _ _ _ _ (fun i hi => ⟨fil_up c hi, fil_up A hi, fil_up B hi⟩) ⟨fil_at c h, fil_at A h, fil_at B h⟩
theorem fil_skip {c A B : Nat → Int} {k : Nat} (h : c k = 0) : insL (fil c k c) (fil c k A) (fil c k B) (rk c k) = insL (fil c (k + 1) c) (fil c (k + 1) A) (fil c (k + 1) B) (rk c (k + 1)) := by
  rw [rk_no h]
  exact insL_congr fun i hi => ⟨(fil_up c hi).symm, (fil_up A hi).symm, (fil_up B hi).symm⟩
/-- a row of instructions, and what lies behind it -/
def insR (c A B : Nat → Int) (n : Nat) (r : List Value) : Array Value := (insL c A B n ++ r).toArray
theorem insR_size (c A B : Nat → Int) (n : Nat) (r : List Value) : (insR c A B n r).size = n * 3 + r.length := by simp [insR, insL_len]
theorem insR_lift {c A B : Nat → Int} {n t : Nat} {r : List Value} {u : Value} (ht : t < n * 3) (hu : (insL c A B n)[t]? = some u) : (insR c A B n r).toList[t]? = some u := by
  unfold insR
  rw [List.getElem?_append_left (by rw [insL_len]; exact ht)]; exact hu
theorem insR_get {c A B : Nat → Int} {n j : Nat} {r : List Value} (h : j < n) : ((insR c A B n r).toList.drop (j * 3)).take 3 = [vI (c j), vI (A j), vI (B j)] := by
  obtain ⟨q1, q2, q3⟩ := ins3 (c := c) (A := A) (B := B) h
  refine List.ext_getElem? fun q => ?_
  rw [List.getElem?_take]
  by_cases hq : q < 3
  · rw [if_pos hq, List.getElem?_drop]
    match q, hq with
    | 0, _ => exact insR_lift (by omega) q1
    | 1, _ => exact insR_lift (by omega) q2
    | 2, _ => exact insR_lift (by omega) q3
  · rw [if_neg hq, List.getElem?_eq_none (by simp; omega)]
theorem insR_set {c A B : Nat → Int} {n i : Nat} {r : List Value} (h : i < n) (x y z : Int) : (#[vI x, vI y, vI z] : Array Value).toList.zipIdx.foldl (fun (c : Array Value) (p : Value × Nat) => c.setIfInBounds (i * 3 + p.2) p.1) (insR c A B n r) = insR (upI c i x) (upI A i y) (upI B i z) n r := by
  refine Array.ext_getElem? fun q => ?_
  simp only [List.zipIdx, List.foldl, Array.getElem?_setIfInBounds, Array.size_setIfInBounds, insR_size, Nat.zero_add, Nat.add_zero]
  obtain ⟨q1, q2, q3⟩ := ins3 (c := upI c i x) (A := upI A i y) (B := upI B i z) h
  have hs : i * 3 + 2 < n * 3 := by omega
  have lift : ∀ t u, t < n * 3 → (insL (upI c i x) (upI A i y) (upI B i z) n)[t]? = some u → (insR (upI c i x) (upI A i y) (upI B i z) n r)[t]? = some u := fun t u ht hu => by
    unfold insR; rw [List.getElem?_toArray, List.getElem?_append_left (by rw [insL_len]; exact ht)]; exact hu
  by_cases e2 : i * 3 + (1 + 1) = q
  · rw [if_pos e2, if_pos (by omega)]; subst e2
    rw [lift _ _ (by omega) q3, upI_same]
  · rw [if_neg e2]
    by_cases e1 : i * 3 + 1 = q
    · rw [if_pos e1, if_pos (by omega)]; subst e1
      rw [lift _ _ (by omega) q2, upI_same]
    · rw [if_neg e1]
      by_cases e0 : i * 3 = q
      · rw [if_pos e0, if_pos (by omega)]; subst e0
        rw [lift _ _ (by omega) q1, upI_same]
      · rw [if_neg e0]
        by_cases hq : q < n * 3
        · unfold insR
          rw [List.getElem?_toArray, List.getElem?_toArray, List.getElem?_append_left (by rw [insL_len]; exact hq), List.getElem?_append_left (by rw [insL_len]; exact hq), insL_get hq, insL_get hq]
          have hne : q / 3 ≠ i := by omega
          unfold fld; rw [upI_ne hne, upI_ne hne, upI_ne hne]
        · unfold insR
          rw [List.getElem?_toArray, List.getElem?_toArray, List.getElem?_append_right (by rw [insL_len]; omega), List.getElem?_append_right (by rw [insL_len]; omega), insL_len, insL_len]
theorem insR_take {c A B : Nat → Int} {n i : Nat} {r : List Value} (h : i ≤ n) : (insR c A B n r).toList.take (i * 3) = insL c A B i := by
  unfold insR
  rw [List.take_append_of_le_length (by rw [insL_len]; omega)]
  unfold insL
  rw [← List.map_take, List.take_range, Nat.min_eq_left (by omega)]
theorem cur_insR {c A B : Nat → Int} {n : Nat} {cur : Array Value} (h : cur.toList.take (n * 3) = insL c A B n) : ∃ r, cur = insR c A B n r := by
  refine ⟨cur.toList.drop (n * 3), ?_⟩
  unfold insR
  rw [← h, List.take_append_drop]
theorem nil_own {w : World} {b : Nat} (h : Ent.holds w (.cel b #[] 23)) : Ent.holds w (.own (vS b 0 0) 0 [] 23 3) :=
  ⟨rfl, .inr ⟨b, 0, #[], rfl, Nat.zero_le _, h, Nat.le_refl _, by unfold maxLen; omega, rfl, rfl⟩⟩
theorem own_some {w : World} {pv : Option Addr} {n cp : Nat} {c A B : Nat → Int} (h : Ent.holds w (ownI pv n cp c A B)) (h0 : 0 < n) : ∃ g, pv = some ⟨g, 0, none⟩ := by
  have h2 : w.ownsRow 0 23 3 (.slice pv n cp) n (insL c A B n) := h
  rcases h2.2 with ⟨_, h1⟩ | ⟨g, cap, cur, hv, _⟩
  · omega
  · cases hv; exact ⟨g, rfl⟩
theorem df_kept {c A B C D E : Nat → Int} {j : Nat} (h : c j ≠ 0) (hf : ∀ q, q < rk c j → C q = fil c j c q ∧ D q = fil c j A q ∧ E q = fil c j B q) (e1 : C j = c j) (e2 : D j = A j) (e3 : E j = B j) :
    ∀ q, q < rk c (j + 1) → upI C (rk c j) (C j) q = fil c (j + 1) c q ∧ upI D (rk c j) (D j) q = fil c (j + 1) A q ∧ upI E (rk c j) (E j) q = fil c (j + 1) B q := fun q hq => by
  rw [rk_yes h] at hq
  by_cases e : q = rk c j
  · subst e; rw [upI_same, upI_same, upI_same, fil_at c h, fil_at A h, fil_at B h]; exact ⟨e1, e2, e3⟩
  · rw [upI_ne e, upI_ne e, upI_ne e, fil_up c (by omega), fil_up A (by omega), fil_up B (by omega)]; exact hf q (by omega)
theorem df_drop {c A B C D E : Nat → Int} {j : Nat} (h : c j = 0) (hf : ∀ q, q < rk c j → C q = fil c j c q ∧ D q = fil c j A q ∧ E q = fil c j B q) :
    ∀ q, q < rk c (j + 1) → C q = fil c (j + 1) c q ∧ D q = fil c (j + 1) A q ∧ E q = fil c (j + 1) B q := fun q hq => by
  rw [rk_no h] at hq
  rw [fil_up c hq, fil_up A hq, fil_up B hq]; exact hf q hq
/-- what DeleteFunc leaves: the row's own block alone has changed -/
def DelR (w : World) (pv : Option Addr) (n cp : Nat) (c A B : Nat → Int) (e : Ending) (w' : World) : Prop :=
  e = .returned (.slice pv (rk c n) cp) ∧ HP (fun b => (ownI pv n cp c A B).blk ≠ some b) w w' [ownI pv (rk c n) cp (fil c n c) (fil c n A) (fil c n B)]
theorem rk_lt0 {c : Nat → Int} {k n : Nat} (hk : k < n) (h : c k = 0) : rk c n < n := by
  have h1 := rk_le c k
  have h2 := rk_no h
  have h3 : ∀ j, rk c (k + 1 + j) ≤ rk c (k + 1) + j := fun j => by
    induction j with
    | zero => exact Nat.le_refl _
    | succ j ih =>
      show rk c (k + 1 + j) + _ ≤ _
      split <;> omega
  have h4 := h3 (n - (k + 1))
  rw [show k + 1 + (n - (k + 1)) = n by omega] at h4
  omega
/-- what Trim returns -/
def TrimR (w : World) (c A B : Nat → Int) (n : Nat) (e : Ending) (w' : World) : Prop :=
  (chk c A B false n ≠ 0 ∧ e = .returned (.tuple #[.slice none 0 0, vI (chk c A B false n)]) ∧ Below w.heap.size w w') ∨
  (chk c A B false n = 0 ∧ ∃ pv cp, e = .returned (.tuple #[.slice pv (rk c n) cp, vI 0]) ∧ HP Tr w w' [ownI pv (rk c n) cp (fil c n c) (fil c n A) (fil c n B)])
theorem own_blk {pv : Option Addr} {n m cp : Nat} {xs ys : List Value} {e s S : Nat} (b : Nat) : (Ent.own (.slice pv m cp) m ys e s).blk = some b → (Ent.own (.slice pv n cp) n xs e s).blk = some b ∨ S ≤ b := fun h => .inl (by cases pv <;> exact h)
theorem sz54 : (Try.prog.info? 54).map (·.size) = some 4 := by kernel_rfl
set_option maxRecDepth 20000 in
set_option maxHeartbeats 4000000 in
theorem del_any (op a b : Int) (w : World) :
    Calls Try.prog 55 #[.agg #[vI op, vI a, vI b]] w fun e w' => e = .returned (.bool (decide (op = 0))) ∧ Below w.heap.size w w' := by
  refine calls_of Try.func55 rfl (m := 6) rfl [(0, .agg #[vI op, vI a, vI b])] (Fr_enter [.agg #[vI op, vI a, vI b]] 6 (Nat.le_of_ble_eq_true rfl)) ?_
  have hH1 : HP Tr w w [] := HP.refl w
  refine WC.seq fun K2 hK2 => ?_
  refine WC.region ?_
  refine WL.alloc (c := #[vI op, vI a, vI b]) (T := 23) hH1 1 rfl (by decide) rfl rfl (fun b3 => vP b3 0) (by kernel_rfl) (fun b3 w4 hw4 => ?_)
  have hH5 : HP Tr w w4 [.cel b3 #[vI op, vI a, vI b] 23] := hw4.2
  have nb3 := hw4.1
  clear hw4
  refine WL.pure (v := .bool false) 2 rfl (Nat.le_of_ble_eq_true rfl) rfl rfl (by kernel_rfl) ?_
  refine WL.nil ?_
  refine WQ.then ?_
  refine hK2 _ _ _ ?_
  refine WC.seq fun K6 hK6 => ?_
  refine WC.region ?_
  refine WL.pure (v := vP b3 0) 3 rfl (Nat.le_of_ble_eq_true rfl) rfl rfl (by kernel_rfl) ?_
  refine WL.pure (v := vI op) 4 rfl (Nat.le_of_ble_eq_true rfl) rfl rfl (x_load rfl rfl Try.underlying3 rfl (HP.cell hH5 0 rfl rfl)) ?_
  by_cases h : op = 0
  ·
    refine WL.pure (v := .bool true) 5 rfl (Nat.le_of_ble_eq_true rfl) rfl rfl (x_eql rfl rfl rfl (dT (h))) ?_
    refine WL.pure (v := .bool true) 2 rfl (Nat.le_of_ble_eq_true rfl) rfl rfl (by kernel_rfl) ?_
    refine WL.nil ?_
    refine WQ.then ?_
    refine hK6 _ _ _ ?_
    refine WC.ret ?_
    refine WQ.ret1 2 rfl rfl ?_
    exact ⟨by rw [dT h], HP.below hH5⟩
  ·
    refine WL.pure (v := .bool false) 5 rfl (Nat.le_of_ble_eq_true rfl) rfl rfl (x_eql rfl rfl rfl (dF (h))) ?_
    refine WL.pure (v := .bool false) 2 rfl (Nat.le_of_ble_eq_true rfl) rfl rfl (by kernel_rfl) ?_
    refine WL.nil ?_
    refine WQ.then ?_
    refine hK6 _ _ _ ?_
    refine WC.ret ?_
    refine WQ.ret1 2 rfl rfl ?_
    exact ⟨by rw [dF h], HP.below hH5⟩
set_option maxRecDepth 20000 in
set_option maxHeartbeats 4000000 in
theorem idx2_any (p : Option Addr) (n cap : Nat) (c A B : Nat → Int) (w : World) (hR : RowIn w p n cap c A B) (hn : n ≤ 400) :
    Calls Try.prog 58 #[.slice p n cap, .func (.func 55) #[] #[]] w fun e w' => ∃ r : Int, e = .returned (.int .i64 r) ∧ ((r = -1 ∧ ∀ i, i < n → c i ≠ 0) ∨ (∃ k, k < n ∧ r = ((k : Nat) : Int) ∧ c k = 0 ∧ ∀ i, i < k → c i ≠ 0)) ∧ Below w.heap.size w w' := by
  have hIn := hR.inC
  refine calls_of Try.func58 rfl (m := 19) rfl [(0, .slice p n cap), (1, .func (.func 55) #[] #[])] (Fr_enter [.slice p n cap, .func (.func 55) #[] #[]] 19 (Nat.le_of_ble_eq_true rfl)) ?_
  have hH1 : HP Tr w w [] := HP.refl w
  refine WC.seq fun K2 hK2 => ?_
  refine WC.region ?_
  refine WL.pure (v := vI 0) 4 rfl (Nat.le_of_ble_eq_true rfl) rfl rfl (by kernel_rfl) ?_
  refine WL.nil ?_
  refine WQ.then ?_
  refine hK2 _ _ _ ?_
  refine WC.seq fun K3 hK3 => ?_
  refine WC.seq fun K4 hK4 => ?_
  refine WC.region ?_
  refine WL.pure (v := .slice p n cap) 6 rfl (Nat.le_of_ble_eq_true rfl) rfl rfl (by kernel_rfl) ?_
  refine WL.pure (v := vI (n : Int)) 7 rfl (Nat.le_of_ble_eq_true rfl) rfl rfl (by kernel_rfl) ?_
  refine WL.pure (v := vI 0) 8 rfl (Nat.le_of_ble_eq_true rfl) rfl rfl (by kernel_rfl) ?_
  refine WL.nil ?_
  refine WQ.then ?_
  refine hK4 _ _ _ ?_
  refine WC.block ?_
  refine WC.loop (fun kk0 ll0 ww0 => ∃ (k : Nat), ll0 = [(0, .slice p n cap), (1, .func (.func 55) #[] #[]), (7, vI (n : Int)), (8, vI (k : Int))] ∧ kk0 = n - k ∧ (k ≤ n) ∧ (∀ i, i < k → c i ≠ 0) ∧ HP Tr w ww0 []) (n) [(0, .slice p n cap), (1, .func (.func 55) #[] #[]), (7, vI (n : Int)), (8, vI 0)] ⟨rfl, rfl, rfl, rfl, trivial⟩ ⟨0, rfl, rfl, Nat.zero_le n, fun i hi => absurd hi (Nat.not_lt_zero i), hH1⟩ ?_
  rintro kk l w6 ⟨k, rfl, hkk, hk, hv, hH7⟩ K5 hK5
  refine WC.seq fun K8 hK8 => ?_
  refine WC.region ?_
  by_cases hlt : (k : Int) < (n : Int)
  ·
    refine WL.pure (v := .bool true) 9 rfl (Nat.le_of_ble_eq_true rfl) rfl rfl (x_lss rfl rfl rfl (dT (hlt))) ?_
    refine WL.nil ?_
    refine WQ.then ?_
    refine hK8 _ _ _ ?_
    refine WC.seq fun K9 hK9 => ?_
    refine WC.yes rfl ?_
    refine WC.skip ?_
    refine WQ.then ?_
    refine hK9 _ _ _ ?_
    refine WC.seq fun K10 hK10 => ?_
    refine WC.block ?_
    refine WC.seq fun K11 hK11 => ?_
    refine WC.region ?_
    refine WL.pure (v := vI (k : Int)) 10 rfl (Nat.le_of_ble_eq_true rfl) rfl rfl (by kernel_rfl) ?_
    refine WL.pure (v := vI (k : Int)) 5 rfl (Nat.le_of_ble_eq_true rfl) rfl rfl (by kernel_rfl) ?_
    refine WL.nil ?_
    refine WQ.then ?_
    refine hK11 _ _ _ ?_
    refine WC.seq fun K12 hK12 => ?_
    have hlt' : k < n := by omega
    obtain ⟨bb, oo, rfl, hrow⟩ := hIn (by omega)
    refine WC.region ?_
    refine WL.pure (v := .func (.func 55) #[] #[]) 11 rfl (Nat.le_of_ble_eq_true rfl) rfl rfl (by kernel_rfl) ?_
    refine WL.pure (v := .slice (some ⟨bb, oo, none⟩) n cap) 12 rfl (Nat.le_of_ble_eq_true rfl) rfl rfl (by kernel_rfl) ?_
    refine WL.pure (v := vI (k : Int)) 13 rfl (Nat.le_of_ble_eq_true rfl) rfl rfl (by kernel_rfl) ?_
    refine WL.pure (v := vP bb (oo + k * 3)) 14 rfl (Nat.le_of_ble_eq_true rfl) rfl rfl (x_idx (k) (oo + k * 3) rfl rfl rfl Try.underlying30 sz23 (by omega) (by omega) (by omega)) ?_
    refine WL.pure (v := .agg #[vI (c k), vI (A k), vI (B k)]) 15 rfl (Nat.le_of_ble_eq_true rfl) rfl rfl (x_loadS (cs := [vI (c k), vI (A k), vI (B k)]) rfl rfl Try.underlying23 rfl sz23 (HP.oldRange hH7 trivial (hrow k (by omega)))) ?_
    refine WL.call (f := 55) (args := #[.agg #[vI (c k), vI (A k), vI (B k)]]) 16 rfl (Nat.le_of_ble_eq_true rfl) rfl rfl (by kernel_rfl) ?_
    refine (del_any _ _ _ _).mono ?_
    rintro e w13 ⟨rfl, hb14⟩
    refine ⟨_, rfl, ?_⟩
    have hH15 : HP Tr w _ [] := HP.call hH7 hb14
    refine WL.nil ?_
    refine WQ.then ?_
    refine hK12 _ _ _ ?_
    refine WC.sub (l' := [(0, .slice (some ⟨bb, oo, none⟩) n cap), (1, .func (.func 55) #[] #[]), (5, vI (k : Int)), (7, vI (n : Int)), (8, vI (k : Int)), (9, .bool true), (16, .bool (decide (c k = 0)))]) ⟨rfl, rfl, rfl, rfl, rfl, rfl, rfl, trivial⟩ ?_
    rcases Bool.eq_false_or_eq_true (decide (c k = 0)) with hA | hA
    ·
      refine WC.yes (congrArg (fun b => some (Value.bool b)) hA) ?_
      refine WC.seq fun K16 hK16 => ?_
      refine WC.region ?_
      refine WL.pure (v := vI (k : Int)) 17 rfl (Nat.le_of_ble_eq_true rfl) rfl rfl (by kernel_rfl) ?_
      refine WL.pure (v := vI (k : Int)) 4 rfl (Nat.le_of_ble_eq_true rfl) rfl rfl (by kernel_rfl) ?_
      refine WL.nil ?_
      refine WQ.then ?_
      refine hK16 _ _ _ ?_
      refine WC.ret ?_
      refine WQ.inRet ?_
      refine WQ.thenRet ?_
      refine WQ.thenRet ?_
      refine WQ.inRet ?_
      refine WQ.thenRet ?_
      refine WQ.ret1 4 rfl rfl ?_
      exact ⟨k, rfl, .inr ⟨k, hlt', rfl, of_decide_eq_true hA, hv⟩, HP.below hH15⟩
    ·
      refine WC.no (congrArg (fun b => some (Value.bool b)) hA) ?_
      refine WC.skip ?_
      refine WQ.inNormal ?_
      refine WQ.then ?_
      refine hK10 _ _ _ ?_
      refine WC.region ?_
      refine WL.pure (v := vI ((k + 1 : Nat) : Int)) 18 rfl (Nat.le_of_ble_eq_true rfl) rfl rfl (x_add (Z := ((k + 1 : Nat) : Int)) rfl rfl rfl (by omega) (by omega) (by omega)) ?_
      refine WL.pure (v := vI ((k + 1 : Nat) : Int)) 8 rfl (Nat.le_of_ble_eq_true rfl) rfl rfl (by kernel_rfl) ?_
      refine WL.nil ?_
      refine WQ.sub (l' := [(0, .slice (some ⟨bb, oo, none⟩) n cap), (1, .func (.func 55) #[] #[]), (7, vI (n : Int)), (8, vI ((k + 1 : Nat) : Int))]) ⟨rfl, rfl, rfl, rfl, trivial⟩ ?_
      refine WQ.then (hK5 _ _ _ (by omega) ⟨k + 1, rfl, rfl, by omega, fun i hi => (Nat.lt_succ_iff_lt_or_eq.1 hi).elim (hv i) (fun e => by rw [e]; exact of_decide_eq_false hA), hH15⟩)
  ·
    refine WL.pure (v := .bool false) 9 rfl (Nat.le_of_ble_eq_true rfl) rfl rfl (x_lss rfl rfl rfl (dF (hlt))) ?_
    refine WL.nil ?_
    refine WQ.then ?_
    refine hK8 _ _ _ ?_
    refine WC.seq fun K17 hK17 => ?_
    refine WC.no rfl ?_
    refine WC.exit ?_
    refine WQ.thenExit ?_
    refine WQ.thenExit ?_
    refine WQ.inExit ?_
    refine WQ.then ?_
    refine hK3 _ _ _ ?_
    refine WC.seq fun K18 hK18 => ?_
    refine WC.region ?_
    refine WL.pure (v := vI (-1)) 4 rfl (Nat.le_of_ble_eq_true rfl) rfl rfl (by kernel_rfl) ?_
    refine WL.nil ?_
    refine WQ.then ?_
    refine hK18 _ _ _ ?_
    refine WC.ret ?_
    refine WQ.ret1 4 rfl rfl ?_
    exact ⟨-1, rfl, .inl ⟨rfl, fun i hi => hv i (by omega)⟩, HP.below hH7⟩
set_option maxRecDepth 20000 in
set_option maxHeartbeats 4000000 in
theorem Clone_any (p : Option Addr) (n cap : Nat) (c A B : Nat → Int) (w : World) (hR : RowIn w p n cap c A B) (hn : n ≤ 400) :
    Calls Try.prog 54 #[.slice p n cap] w (OwnR w c A B n) := by
  have hIn := hR.inC
  obtain ⟨i0, hi0, hz0, hz1, hz2⟩ := infoR'
  refine calls_of Try.func54 rfl (m := 8) rfl [(0, .slice p n cap)] (Fr_enter [.slice p n cap] 8 (Nat.le_of_ble_eq_true rfl)) ?_
  have hH1 : HP Tr w w [] := HP.refl w
  refine WC.seq fun K2 hK2 => ?_
  refine WC.region ?_
  refine WL.pure (v := .slice none 0 0) 2 rfl (Nat.le_of_ble_eq_true rfl) rfl rfl (by kernel_rfl) ?_
  refine WL.nil ?_
  refine WQ.then ?_
  refine hK2 _ _ _ ?_
  refine WC.seq fun K3 hK3 => ?_
  refine WC.seq fun K4 hK4 => ?_
  refine WC.region ?_
  refine WL.pure (v := .slice p n cap) 3 rfl (Nat.le_of_ble_eq_true rfl) rfl rfl (by kernel_rfl) ?_
  cases hp : p with
  | none =>
    subst hp
    refine WL.pure (v := .bool true) 4 rfl (Nat.le_of_ble_eq_true rfl) rfl rfl (x_eqlNil rfl rfl rfl Try.underlying30 (by kernel_rfl) rfl) ?_
    refine WL.nil ?_
    refine WQ.then ?_
    refine hK4 _ _ _ ?_
    refine WC.yes rfl ?_
    refine WC.seq fun K5 hK5 => ?_
    refine WC.region ?_
    refine WL.pure (v := .slice none 0 0) 2 rfl (Nat.le_of_ble_eq_true rfl) rfl rfl (by kernel_rfl) ?_
    refine WL.nil ?_
    refine WQ.then ?_
    refine hK5 _ _ _ ?_
    refine WC.ret ?_
    refine WQ.thenRet ?_
    refine WQ.ret1 2 rfl rfl ?_
    obtain ⟨rfl, -⟩ := hR.nil rfl
    exact ⟨none, 0, rfl, HP.ownNil hH1 23 3⟩
  | some a =>
    subst hp
    refine WL.pure (v := .bool false) 4 rfl (Nat.le_of_ble_eq_true rfl) rfl rfl (x_eqlNil rfl rfl rfl Try.underlying30 (by kernel_rfl) rfl) ?_
    refine WL.nil ?_
    refine WQ.then ?_
    refine hK4 _ _ _ ?_
    refine WC.no rfl ?_
    refine WC.skip ?_
    refine WQ.then ?_
    refine hK3 _ _ _ ?_
    refine WC.seq fun K6 hK6 => ?_
    refine WC.region ?_
    refine WL.alloc (c := #[]) (T := 23) hH1 5 rfl (by decide) rfl rfl (fun b7 => vS b7 0 0) (by kernel_rfl) (fun b7 w8 hw8 => ?_)
    have hH9 : HP Tr w w8 [.cel b7 #[] 23] := hw8.2
    have nb7 := hw8.1
    clear hw8
    refine WL.pure (v := .slice (some a) n cap) 6 rfl (Nat.le_of_ble_eq_true rfl) rfl rfl (by kernel_rfl) ?_
    have hO := HP.setSame hH9 0 (e' := .own (vS b7 0 0) 0 [] 23 3) rfl (nil_own (HP.get hH9 0 rfl)) rfl
    have hH10 : HP Tr w _ [.own (vS b7 0 0) 0 [] 23 3] := hO
    refine WL.appendSrc (insL c A B n) 0 hH10 7 rfl (by decide) rfl rfl rfl rfl Try.underlying30 hi0 hz0 hz1 hz2 rfl (by decide) rfl (hR.below (HP.below hH10)).src (insL_len _ _ _ _) (insL_one _ _ _ _) (by unfold maxLen; omega) (by omega) ?_
    rintro v2 w2 - hA
    have hA2 := HP.eq (H' := [.own v2 n (insL c A B n) 23 3]) hA (by simp)
    obtain ⟨pv, cp, rfl⟩ := own_slice (HP.get hA2 0 rfl)
    refine WL.pure (v := .slice pv n cp) 2 rfl (Nat.le_of_ble_eq_true rfl) rfl rfl (by kernel_rfl) ?_
    refine WL.nil ?_
    refine WQ.then ?_
    refine hK6 _ _ _ ?_
    refine WC.ret ?_
    refine WQ.ret1 2 rfl rfl ?_
    exact ⟨pv, cp, rfl, hA2⟩
set_option maxRecDepth 20000 in
set_option maxHeartbeats 4000000 in
theorem DeleteFunc_any (pv : Option Addr) (n cp : Nat) (c A B : Nat → Int) (w : World) (hO : Ent.holds w (ownI pv n cp c A B)) (hn : n ≤ 400) :
    Calls Try.prog 53 #[.slice pv n cp, .func (.func 55) #[] #[]] w (DelR w pv n cp c A B) := by
  refine calls_of Try.func53 rfl (m := 42) rfl [(0, .slice pv n cp), (1, .func (.func 55) #[] #[])] (Fr_enter [.slice pv n cp, .func (.func 55) #[] #[]] 42 (Nat.le_of_ble_eq_true rfl)) ?_
  refine WC.seq fun K1 hK1 => ?_
  refine WC.region ?_
  refine WL.pure (v := .slice none 0 0) 4 rfl (Nat.le_of_ble_eq_true rfl) rfl rfl (by kernel_rfl) ?_
  refine WL.nil ?_
  refine WQ.then ?_
  refine hK1 _ _ _ ?_
  refine WC.seq fun K2 hK2 => ?_
  refine WC.region ?_
  refine WL.pure (v := .slice pv n cp) 8 rfl (Nat.le_of_ble_eq_true rfl) rfl rfl (by kernel_rfl) ?_
  refine WL.pure (v := .func (.func 55) #[] #[]) 9 rfl (Nat.le_of_ble_eq_true rfl) rfl rfl (by kernel_rfl) ?_
  refine WL.call (f := 58) (args := #[.slice pv n cp, .func (.func 55) #[] #[]]) 10 rfl (Nat.le_of_ble_eq_true rfl) rfl rfl (by kernel_rfl) ?_
  refine (idx2_any _ _ _ c A B _ (own_rowIn (HP.get (HP.start1 hO) 0 rfl)) hn).mono ?_
  rintro e w1 ⟨r, rfl, ⟨rfl, hall⟩ | ⟨k, hkn, rfl, hk0, hfst⟩, hb⟩
  ·
    refine ⟨_, rfl, ?_⟩
    have hH3 : HP (fun b => (ownI pv n cp c A B).blk ≠ some b) w _ [.own (.slice pv n cp) n (insL c A B n) 23 3] := HP.call (HP.start1 hO) hb
    refine WL.pure (v := vI (-1)) 5 rfl (Nat.le_of_ble_eq_true rfl) rfl rfl (by kernel_rfl) ?_
    refine WL.nil ?_
    refine WQ.then ?_
    refine hK2 _ _ _ ?_
    refine WC.seq fun K4 hK4 => ?_
    refine WC.seq fun K5 hK5 => ?_
    refine WC.region ?_
    refine WL.pure (v := vI (-1)) 11 rfl (Nat.le_of_ble_eq_true rfl) rfl rfl (by kernel_rfl) ?_
    refine WL.pure (v := .bool true) 12 rfl (Nat.le_of_ble_eq_true rfl) rfl rfl (x_eql rfl rfl rfl (by decide)) ?_
    refine WL.nil ?_
    refine WQ.then ?_
    refine hK5 _ _ _ ?_
    refine WC.yes rfl ?_
    refine WC.seq fun K6 hK6 => ?_
    refine WC.region ?_
    refine WL.pure (v := .slice pv n cp) 13 rfl (Nat.le_of_ble_eq_true rfl) rfl rfl (by kernel_rfl) ?_
    refine WL.pure (v := .slice pv n cp) 4 rfl (Nat.le_of_ble_eq_true rfl) rfl rfl (by kernel_rfl) ?_
    refine WL.nil ?_
    refine WQ.then ?_
    refine hK6 _ _ _ ?_
    refine WC.sub (l' := [(0, .slice pv n cp), (1, .func (.func 55) #[] #[]), (4, .slice pv n cp), (5, vI (-1)), (12, .bool true)]) ⟨rfl, rfl, rfl, rfl, rfl, trivial⟩ ?_
    refine WC.ret ?_
    refine WQ.thenRet ?_
    refine WQ.ret1 4 rfl rfl ?_
    refine ⟨by rw [rk_all n hall], ?_⟩
    have hfe : insL (fil c n c) (fil c n A) (fil c n B) n = insL c A B n := insL_congr fun i hi => ⟨fil_all c hall hi, fil_all A hall hi, fil_all B hall hi⟩
    rw [rk_all n hall]
    show HP _ w _ [.own (.slice pv n cp) n (insL (fil c n c) (fil c n A) (fil c n B) n) 23 3]
    rw [hfe]
    exact hH3
  ·
    refine ⟨_, rfl, ?_⟩
    have hH7 : HP (fun b => (ownI pv n cp c A B).blk ≠ some b) w _ [.own (.slice pv n cp) n (insL c A B n) 23 3] := HP.call (HP.start1 hO) hb
    have hrkk := rk_all k hfst
    obtain ⟨pq, hpq⟩ : ∃ g, pv = some ⟨g, 0, none⟩ := own_some (HP.get hH7 0 rfl) (by omega)
    subst hpq
    obtain ⟨cur, hC, hc1, hc2, hc3, hc4⟩ := HP.ownToCel hH7 0 rfl
    obtain ⟨rr, rfl⟩ := cur_insR hc4
    have hH8 : HP (fun b => (ownI (some ⟨pq, 0, none⟩) n cp c A B).blk ≠ some b) w _ [.cel pq (insR c A B n rr) 23] := hC
    rw [insR_size] at hc3
    refine WL.pure (v := vI (k : Int)) 5 rfl (Nat.le_of_ble_eq_true rfl) rfl rfl (by kernel_rfl) ?_
    refine WL.nil ?_
    refine WQ.then ?_
    refine hK2 _ _ _ ?_
    refine WC.seq fun K9 hK9 => ?_
    refine WC.seq fun K10 hK10 => ?_
    refine WC.region ?_
    refine WL.pure (v := vI (k : Int)) 11 rfl (Nat.le_of_ble_eq_true rfl) rfl rfl (by kernel_rfl) ?_
    refine WL.pure (v := .bool false) 12 rfl (Nat.le_of_ble_eq_true rfl) rfl rfl (x_eql rfl rfl rfl (dF (by omega))) ?_
    refine WL.nil ?_
    refine WQ.then ?_
    refine hK10 _ _ _ ?_
    refine WC.no rfl ?_
    refine WC.skip ?_
    refine WQ.then ?_
    refine hK9 _ _ _ ?_
    refine WC.seq fun K11 hK11 => ?_
    refine WC.seq fun K12 hK12 => ?_
    refine WC.region ?_
    refine WL.pure (v := vI (k : Int)) 14 rfl (Nat.le_of_ble_eq_true rfl) rfl rfl (by kernel_rfl) ?_
    refine WL.pure (v := vI ((k + 1 : Nat) : Int)) 15 rfl (Nat.le_of_ble_eq_true rfl) rfl rfl (x_add (Z := ((k + 1 : Nat) : Int)) rfl rfl rfl (by omega) (by omega) (by omega)) ?_
    refine WL.pure (v := vI ((k + 1 : Nat) : Int)) 6 rfl (Nat.le_of_ble_eq_true rfl) rfl rfl (by kernel_rfl) ?_
    refine WL.nil ?_
    refine WQ.then ?_
    refine hK12 _ _ _ ?_
    refine WC.sub (l' := [(0, vS pq n cp), (1, .func (.func 55) #[] #[]), (4, .slice none 0 0), (5, vI (k : Int)), (6, vI ((k + 1 : Nat) : Int)), (12, .bool false)]) ⟨rfl, rfl, rfl, rfl, rfl, rfl, trivial⟩ ?_
    refine WC.block ?_
    refine WC.loop (fun kk0 ll0 ww0 => ∃ (j : Nat) (r : Nat) (C : Nat → Int) (D : Nat → Int) (E : Nat → Int), ll0 = [(0, vS pq n cp), (1, .func (.func 55) #[] #[]), (5, vI (r : Int)), (6, vI (j : Int))] ∧ kk0 = n - j ∧ (j ≤ n) ∧ (k < j) ∧ (r = rk c j) ∧ (∀ q, q < r → C q = fil c j c q ∧ D q = fil c j A q ∧ E q = fil c j B q) ∧ (∀ q, j ≤ q → C q = c q ∧ D q = A q ∧ E q = B q) ∧ HP (fun b => (ownI (some ⟨pq, 0, none⟩) n cp c A B).blk ≠ some b) w ww0 [.cel pq (insR C D E n rr) 23]) (n - (k + 1)) [(0, vS pq n cp), (1, .func (.func 55) #[] #[]), (5, vI (k : Int)), (6, vI ((k + 1 : Nat) : Int))] ⟨rfl, rfl, rfl, rfl, trivial⟩ ⟨k + 1, k, c, A, B, rfl, rfl, by omega, by omega, by rw [rk_no hk0]; exact hrkk.symm, fun q hq => by rw [fil_up c (by omega), fil_up A (by omega), fil_up B (by omega), fil_all c hfst hq, fil_all A hfst hq, fil_all B hfst hq]; exact ⟨rfl, rfl, rfl⟩, fun q hq => ⟨rfl, rfl, rfl⟩, hH8⟩ ?_
    rintro kk l w14 ⟨j, r, C, D, E, rfl, hkk, hj, hkj, hr, hflt, horg, hH15⟩ K13 hK13
    refine WC.seq fun K16 hK16 => ?_
    refine WC.seq fun K17 hK17 => ?_
    refine WC.region ?_
    refine WL.pure (v := vI (j : Int)) 16 rfl (Nat.le_of_ble_eq_true rfl) rfl rfl (by kernel_rfl) ?_
    refine WL.pure (v := vS pq n cp) 17 rfl (Nat.le_of_ble_eq_true rfl) rfl rfl (by kernel_rfl) ?_
    refine WL.pure (v := vI (n : Int)) 18 rfl (Nat.le_of_ble_eq_true rfl) rfl rfl (by kernel_rfl) ?_
    by_cases hlt : (j : Int) < (n : Int)
    ·
      refine WL.pure (v := .bool true) 19 rfl (Nat.le_of_ble_eq_true rfl) rfl rfl (x_lss rfl rfl rfl (dT (hlt))) ?_
      refine WL.nil ?_
      refine WQ.then ?_
      refine hK17 _ _ _ ?_
      refine WC.yes rfl ?_
      refine WC.skip ?_
      refine WQ.then ?_
      refine hK16 _ _ _ ?_
      refine WC.seq fun K18 hK18 => ?_
      refine WC.block ?_
      refine WC.seq fun K19 hK19 => ?_
      refine WC.region ?_
      refine WL.pure (v := vS pq n cp) 22 rfl (Nat.le_of_ble_eq_true rfl) rfl rfl (by kernel_rfl) ?_
      refine WL.pure (v := vI (j : Int)) 23 rfl (Nat.le_of_ble_eq_true rfl) rfl rfl (by kernel_rfl) ?_
      refine WL.pure (v := vP pq (j * 3)) 24 rfl (Nat.le_of_ble_eq_true rfl) rfl rfl (x_idx (j) (j * 3) rfl rfl rfl Try.underlying30 sz23 (by omega) (by omega) (by omega)) ?_
      refine WL.pure (v := .agg #[vI (C j), vI (D j), vI (E j)]) 25 rfl (Nat.le_of_ble_eq_true rfl) rfl rfl (x_loadS (cs := [vI (C j), vI (D j), vI (E j)]) rfl rfl Try.underlying23 rfl sz23 (HP.range hH15 0 rfl (insR_get (by omega)))) ?_
      obtain ⟨e1, e2, e3⟩ := horg j (Nat.le_refl _)
      refine WL.alloc (c := #[vI 0, vI 0, vI 0]) (T := 23) hH15 7 rfl (by decide) rfl rfl (fun b20 => vP b20 0) (by kernel_rfl) (fun b20 w21 hw21 => ?_)
      have hH22 : HP (fun b => (ownI (some ⟨pq, 0, none⟩) n cp c A B).blk ≠ some b) w w21 [.cel pq (insR C D E n rr) 23, .cel b20 #[vI 0, vI 0, vI 0] 23] := hw21.2
      have nb20 := hw21.1
      clear hw21
      refine WL.storeS (H2 := [.cel pq (insR C D E n rr) 23, .cel b20 #[vI (C j), vI (D j), vI (E j)] 23]) 1 hH22 rfl rfl rfl rfl rfl rfl sz23 rfl (Nat.le_of_ble_eq_true rfl) rfl rfl ?_
      intro w23 hH24
      refine WL.nil ?_
      refine WQ.then ?_
      refine hK19 _ _ _ ?_
      refine WC.sub (l' := [(0, vS pq n cp), (1, .func (.func 55) #[] #[]), (5, vI (r : Int)), (6, vI (j : Int)), (7, vP b20 0), (19, .bool true)]) ⟨rfl, rfl, rfl, rfl, rfl, rfl, trivial⟩ ?_
      refine WC.seq fun K25 hK25 => ?_
      refine WC.region ?_
      refine WL.pure (v := .func (.func 55) #[] #[]) 26 rfl (Nat.le_of_ble_eq_true rfl) rfl rfl (by kernel_rfl) ?_
      refine WL.pure (v := .agg #[vI (C j), vI (D j), vI (E j)]) 27 rfl (Nat.le_of_ble_eq_true rfl) rfl rfl (x_loadS (cs := [vI (C j), vI (D j), vI (E j)]) rfl rfl Try.underlying23 rfl sz23 (HP.range hH24 1 rfl rfl)) ?_
      refine WL.call (f := 55) (args := #[.agg #[vI (C j), vI (D j), vI (E j)]]) 28 rfl (Nat.le_of_ble_eq_true rfl) rfl rfl (by kernel_rfl) ?_
      refine (del_any _ _ _ _).mono ?_
      rintro e w26 ⟨rfl, hb27⟩
      refine ⟨_, rfl, ?_⟩
      have hH28 : HP (fun b => (ownI (some ⟨pq, 0, none⟩) n cp c A B).blk ≠ some b) w _ [.cel pq (insR C D E n rr) 23, .cel b20 #[vI (C j), vI (D j), vI (E j)] 23] := HP.call hH24 hb27
      refine WL.pure (v := .bool (!(decide (C j = 0)))) 29 rfl (Nat.le_of_ble_eq_true rfl) rfl rfl (by kernel_rfl) ?_
      refine WL.nil ?_
      refine WQ.then ?_
      refine hK25 _ _ _ ?_
      rcases Bool.eq_false_or_eq_true (decide (C j = 0)) with hA | hA
      ·
        refine WC.no (congrArg (fun b => some (Value.bool (!b))) hA) ?_
        refine WC.skip ?_
        refine WQ.inNormal ?_
        refine WQ.then ?_
        refine hK18 _ _ _ ?_
        refine WC.region ?_
        refine WL.pure (v := vI (j : Int)) 20 rfl (Nat.le_of_ble_eq_true rfl) rfl rfl (by kernel_rfl) ?_
        refine WL.pure (v := vI ((j + 1 : Nat) : Int)) 21 rfl (Nat.le_of_ble_eq_true rfl) rfl rfl (x_add (Z := ((j + 1 : Nat) : Int)) rfl rfl rfl (by omega) (by omega) (by omega)) ?_
        refine WL.pure (v := vI ((j + 1 : Nat) : Int)) 6 rfl (Nat.le_of_ble_eq_true rfl) rfl rfl (by kernel_rfl) ?_
        refine WL.nil ?_
        have hj0 : c j = 0 := by rw [← e1]; exact of_decide_eq_true hA
        refine WQ.sub (l' := [(0, vS pq n cp), (1, .func (.func 55) #[] #[]), (5, vI (r : Int)), (6, vI ((j + 1 : Nat) : Int))]) ⟨rfl, rfl, rfl, rfl, trivial⟩ ?_
        refine WQ.then (hK13 _ _ _ (by omega) ⟨j + 1, r, C, D, E, rfl, rfl, by omega, by omega, by rw [rk_no hj0]; exact hr, by subst hr; rw [← rk_no hj0]; exact df_drop hj0 hflt, fun q hq => horg q (by omega), (HP.drop hH28 1)⟩)
      ·
        refine WC.yes (congrArg (fun b => some (Value.bool (!b))) hA) ?_
        refine WC.seq fun K29 hK29 => ?_
        have hrl : r < n := by have := rk_le c j; omega
        refine WC.region ?_
        refine WL.pure (v := vS pq n cp) 30 rfl (Nat.le_of_ble_eq_true rfl) rfl rfl (by kernel_rfl) ?_
        refine WL.pure (v := vI (r : Int)) 31 rfl (Nat.le_of_ble_eq_true rfl) rfl rfl (by kernel_rfl) ?_
        refine WL.pure (v := .agg #[vI (C j), vI (D j), vI (E j)]) 32 rfl (Nat.le_of_ble_eq_true rfl) rfl rfl (x_loadS (cs := [vI (C j), vI (D j), vI (E j)]) rfl rfl Try.underlying23 rfl sz23 (HP.range hH28 1 rfl rfl)) ?_
        refine WL.pure (v := vP pq (r * 3)) 33 rfl (Nat.le_of_ble_eq_true rfl) rfl rfl (x_idx (r) (r * 3) rfl rfl rfl Try.underlying30 sz23 (by omega) (by omega) (by omega)) ?_
        refine WL.storeS (cells := #[vI (C j), vI (D j), vI (E j)]) 0 hH28 rfl rfl rfl rfl rfl rfl sz23 rfl (by rw [insR_size]; show r * 3 + 3 ≤ _; omega) (insR_set hrl _ _ _) rfl ?_
        intro w30 hH31
        have hH32 : HP (fun b => (ownI (some ⟨pq, 0, none⟩) n cp c A B).blk ≠ some b) w _ [.cel pq (insR (upI C r (C j)) (upI D r (D j)) (upI E r (E j)) n rr) 23, .cel b20 #[vI (C j), vI (D j), vI (E j)] 23] := hH31
        refine WL.nil ?_
        refine WQ.then ?_
        refine hK29 _ _ _ ?_
        refine WC.sub (l' := [(0, vS pq n cp), (1, .func (.func 55) #[] #[]), (5, vI (r : Int)), (6, vI (j : Int)), (7, vP b20 0), (19, .bool true), (29, .bool (!(decide (C j = 0))))]) ⟨rfl, rfl, rfl, rfl, rfl, rfl, rfl, trivial⟩ ?_
        refine WC.region ?_
        refine WL.pure (v := vI (r : Int)) 34 rfl (Nat.le_of_ble_eq_true rfl) rfl rfl (by kernel_rfl) ?_
        refine WL.pure (v := vI ((r + 1 : Nat) : Int)) 35 rfl (Nat.le_of_ble_eq_true rfl) rfl rfl (x_add (Z := ((r + 1 : Nat) : Int)) rfl rfl rfl (by omega) (by omega) (by omega)) ?_
        refine WL.pure (v := vI ((r + 1 : Nat) : Int)) 5 rfl (Nat.le_of_ble_eq_true rfl) rfl rfl (by kernel_rfl) ?_
        refine WL.nil ?_
        refine WQ.inNormal ?_
        refine WQ.then ?_
        refine hK18 _ _ _ ?_
        refine WC.region ?_
        refine WL.pure (v := vI (j : Int)) 20 rfl (Nat.le_of_ble_eq_true rfl) rfl rfl (by kernel_rfl) ?_
        refine WL.pure (v := vI ((j + 1 : Nat) : Int)) 21 rfl (Nat.le_of_ble_eq_true rfl) rfl rfl (x_add (Z := ((j + 1 : Nat) : Int)) rfl rfl rfl (by omega) (by omega) (by omega)) ?_
        refine WL.pure (v := vI ((j + 1 : Nat) : Int)) 6 rfl (Nat.le_of_ble_eq_true rfl) rfl rfl (by kernel_rfl) ?_
        refine WL.nil ?_
        have hj0 : c j ≠ 0 := by rw [← e1]; exact of_decide_eq_false hA
        have hrj : r ≤ j := by have := rk_le c j; omega
        refine WQ.sub (l' := [(0, vS pq n cp), (1, .func (.func 55) #[] #[]), (5, vI ((r + 1 : Nat) : Int)), (6, vI ((j + 1 : Nat) : Int))]) ⟨rfl, rfl, rfl, rfl, trivial⟩ ?_
        refine WQ.then (hK13 _ _ _ (by omega) ⟨j + 1, r + 1, upI C r (C j), upI D r (D j), upI E r (E j), rfl, rfl, by omega, by omega, by rw [rk_yes hj0, hr], by subst hr; rw [← rk_yes hj0]; exact df_kept hj0 hflt e1 e2 e3, fun q hq => by rw [upI_ne (by omega), upI_ne (by omega), upI_ne (by omega)]; exact horg q (by omega), (HP.drop hH32 1)⟩)
    ·
      refine WL.pure (v := .bool false) 19 rfl (Nat.le_of_ble_eq_true rfl) rfl rfl (x_lss rfl rfl rfl (dF (hlt))) ?_
      refine WL.nil ?_
      refine WQ.then ?_
      refine hK17 _ _ _ ?_
      refine WC.no rfl ?_
      refine WC.exit ?_
      refine WQ.thenExit ?_
      refine WQ.thenExit ?_
      refine WQ.inExit ?_
      refine WQ.then ?_
      refine hK11 _ _ _ ?_
      refine WC.seq fun K33 hK33 => ?_
      refine WC.region ?_
      refine WL.pure (v := vS pq n cp) 36 rfl (Nat.le_of_ble_eq_true rfl) rfl rfl (by kernel_rfl) ?_
      refine WL.pure (v := vI (r : Int)) 37 rfl (Nat.le_of_ble_eq_true rfl) rfl rfl (by kernel_rfl) ?_
      obtain rfl : n = j := by omega
      have hrn := rk_le c n
      have hcn := rk_lt0 hkn hk0
      refine WL.pure (v := .slice (some ⟨pq, r * 3, none⟩) (n - r) (cp - r)) 38 rfl (Nat.le_of_ble_eq_true rfl) rfl rfl (x_sliceL r rfl rfl rfl Try.underlying30 rfl (by omega) (by omega) sz23 (Nat.zero_add _) rfl rfl (by omega)) ?_
      obtain ⟨i0, hi0, hz0, hz1, hz2⟩ := infoR'
      refine WL.clear 0 hH15 rfl rfl rfl rfl Try.underlying30 hi0 hz0 (sz := 3) rfl (by simp [Value.cells, Value.oneCell']) rfl (by rw [insR_size]; omega) ?_
      intro c2 w9 hs2 ht2 hH9
      rw [insR_size] at hs2
      rw [insR_take (show r ≤ n by omega)] at ht2
      have hfin := HP.celToOwn hH9 0 (k := r) (cap := cp) (s := 3) rfl (by omega) hc2 (by omega)
      rw [ht2] at hfin
      have hfe : insL C D E r = insL (fil c n c) (fil c n A) (fil c n B) r := insL_congr hflt
      rw [hfe] at hfin
      have hH34 : HP (fun b => (ownI (some ⟨pq, 0, none⟩) n cp c A B).blk ≠ some b) w _ [.own (.slice (some ⟨pq, 0, none⟩) r cp) r (insL (fil c n c) (fil c n A) (fil c n B) r) 23 3] := hfin
      refine WL.nil ?_
      refine WQ.then ?_
      refine hK33 _ _ _ ?_
      refine WC.sub (l' := [(0, vS pq n cp), (1, .func (.func 55) #[] #[]), (5, vI (r : Int)), (6, vI (n : Int)), (19, .bool false)]) ⟨rfl, rfl, rfl, rfl, rfl, trivial⟩ ?_
      refine WC.seq fun K35 hK35 => ?_
      refine WC.region ?_
      refine WL.pure (v := vS pq n cp) 39 rfl (Nat.le_of_ble_eq_true rfl) rfl rfl (by kernel_rfl) ?_
      refine WL.pure (v := vI (r : Int)) 40 rfl (Nat.le_of_ble_eq_true rfl) rfl rfl (by kernel_rfl) ?_
      refine WL.pure (v := vS pq r cp) 41 rfl (Nat.le_of_ble_eq_true rfl) rfl rfl (x_sliceH (r) rfl rfl rfl Try.underlying30 (by omega) (by omega) sz23) ?_
      refine WL.pure (v := vS pq r cp) 4 rfl (Nat.le_of_ble_eq_true rfl) rfl rfl (by kernel_rfl) ?_
      refine WL.nil ?_
      refine WQ.then ?_
      refine hK35 _ _ _ ?_
      refine WC.ret ?_
      refine WQ.ret1 4 rfl rfl ?_
      subst hr
      exact ⟨rfl, hH34⟩
set_option maxRecDepth 20000 in
set_option maxHeartbeats 4000000 in
theorem Trim_any (p : Option Addr) (n cap : Nat) (c A B : Nat → Int) (w : World) (hR : RowIn w p n cap c A B) (hn : n ≤ 400) :
    Calls Try.prog 36 #[.slice p n cap] w (TrimR w c A B n) := by
  have hIn := hR.inC
  refine calls_of Try.func36 rfl (m := 13) rfl [(0, .slice p n cap)] (Fr_enter [.slice p n cap] 13 (Nat.le_of_ble_eq_true rfl)) ?_
  have hH1 : HP Tr w w [] := HP.refl w
  refine WC.seq fun K2 hK2 => ?_
  refine WC.region ?_
  refine WL.pure (v := .slice none 0 0) 2 rfl (Nat.le_of_ble_eq_true rfl) rfl rfl (by kernel_rfl) ?_
  refine WL.pure (v := vI 0) 3 rfl (Nat.le_of_ble_eq_true rfl) rfl rfl (by kernel_rfl) ?_
  refine WL.nil ?_
  refine WQ.then ?_
  refine hK2 _ _ _ ?_
  refine WC.seq fun K3 hK3 => ?_
  refine WC.seq fun K4 hK4 => ?_
  refine WC.region ?_
  refine WL.pure (v := .slice p n cap) 5 rfl (Nat.le_of_ble_eq_true rfl) rfl rfl (by kernel_rfl) ?_
  refine WL.call (f := 16) (args := #[.slice p n cap, .bool false]) 6 rfl (Nat.le_of_ble_eq_true rfl) rfl rfl (by kernel_rfl) ?_
  refine (Check_any _ _ _ c A B false _ (hIn.below (HP.below hH1)) hn).mono ?_
  rintro e w5 ⟨rfl, hb6⟩
  refine ⟨_, rfl, ?_⟩
  have hH7 : HP Tr w _ [] := HP.call hH1 hb6
  refine WL.pure (v := vI (chk c A B false n)) 4 rfl (Nat.le_of_ble_eq_true rfl) rfl rfl (by kernel_rfl) ?_
  refine WL.nil ?_
  refine WQ.then ?_
  refine hK4 _ _ _ ?_
  refine WC.seq fun K8 hK8 => ?_
  refine WC.region ?_
  refine WL.pure (v := vI (chk c A B false n)) 7 rfl (Nat.le_of_ble_eq_true rfl) rfl rfl (by kernel_rfl) ?_
  by_cases hc : chk c A B false n ≠ 0
  ·
    refine WL.pure (v := .bool true) 8 rfl (Nat.le_of_ble_eq_true rfl) rfl rfl (x_neq rfl rfl rfl (dT (hc))) ?_
    refine WL.nil ?_
    refine WQ.then ?_
    refine hK8 _ _ _ ?_
    refine WC.yes rfl ?_
    refine WC.seq fun K9 hK9 => ?_
    refine WC.region ?_
    refine WL.pure (v := vI (chk c A B false n)) 9 rfl (Nat.le_of_ble_eq_true rfl) rfl rfl (by kernel_rfl) ?_
    refine WL.pure (v := .slice none 0 0) 2 rfl (Nat.le_of_ble_eq_true rfl) rfl rfl (by kernel_rfl) ?_
    refine WL.pure (v := vI (chk c A B false n)) 3 rfl (Nat.le_of_ble_eq_true rfl) rfl rfl (by kernel_rfl) ?_
    refine WL.nil ?_
    refine WQ.then ?_
    refine hK9 _ _ _ ?_
    refine WC.sub (l' := [(0, .slice p n cap), (2, .slice none 0 0), (3, vI (chk c A B false n)), (4, vI (chk c A B false n)), (8, .bool true)]) ⟨rfl, rfl, rfl, rfl, rfl, trivial⟩ ?_
    refine WC.ret ?_
    refine WQ.thenRet ?_
    refine WQ.ret2 2 3 rfl rfl rfl ?_
    exact .inl ⟨hc, rfl, HP.below hH7⟩
  ·
    refine WL.pure (v := .bool false) 8 rfl (Nat.le_of_ble_eq_true rfl) rfl rfl (x_neq rfl rfl rfl (dF (hc))) ?_
    refine WL.nil ?_
    refine WQ.then ?_
    refine hK8 _ _ _ ?_
    refine WC.no rfl ?_
    refine WC.skip ?_
    refine WQ.then ?_
    refine hK3 _ _ _ ?_
    refine WC.seq fun K10 hK10 => ?_
    refine WC.region ?_
    refine WL.pure (v := .slice p n cap) 10 rfl (Nat.le_of_ble_eq_true rfl) rfl rfl (by kernel_rfl) ?_
    refine WL.call (f := 54) (args := #[.slice p n cap]) 11 rfl (Nat.le_of_ble_eq_true rfl) rfl rfl (by kernel_rfl) ?_
    refine (Clone_any _ _ _ c A B _ (hR.below (HP.below hH7)) hn).mono ?_
    rintro e w11 ⟨pv, cp, rfl, hb12⟩
    refine ⟨_, rfl, ?_⟩
    have hH13 : HP Tr w _ [.own (.slice pv n cp) n (insL c A B n) 23 3] := HP.trans hH7 hb12
    refine WL.call (f := 53) (args := #[.slice pv n cp, .func (.func 55) #[] #[]]) 12 rfl (Nat.le_of_ble_eq_true rfl) rfl rfl (by kernel_rfl) ?_
    refine (DeleteFunc_any _ _ _ c A B _ (HP.get hH13 0 rfl) hn).mono ?_
    rintro e w8 ⟨rfl, hb⟩
    refine ⟨_, rfl, ?_⟩
    have hcg := HP.changed hH13 0 rfl hb own_blk
    have hH14 : HP Tr w _ [.own (.slice pv (rk c n) cp) (rk c n) (insL (fil c n c) (fil c n A) (fil c n B) (rk c n)) 23 3] := hcg
    refine WL.pure (v := .slice pv (rk c n) cp) 2 rfl (Nat.le_of_ble_eq_true rfl) rfl rfl (by kernel_rfl) ?_
    refine WL.pure (v := vI 0) 3 rfl (Nat.le_of_ble_eq_true rfl) rfl rfl (by kernel_rfl) ?_
    refine WL.nil ?_
    refine WQ.then ?_
    refine hK10 _ _ _ ?_
    refine WC.sub (l' := [(0, .slice p n cap), (2, .slice pv (rk c n) cp), (3, vI 0), (4, vI (chk c A B false n)), (8, .bool false)]) ⟨rfl, rfl, rfl, rfl, rfl, trivial⟩ ?_
    refine WC.ret ?_
    refine WQ.ret2 2 3 rfl rfl rfl ?_
    exact .inr ⟨by omega, pv, cp, rfl, hH14⟩
set_option maxRecDepth 20000 in
set_option maxHeartbeats 4000000 in
theorem rTrim_any (p : Option Addr) (n cap : Nat) (c A B : Nat → Int) (w : World) (hR : RowIn w p n cap c A B) (hn : n ≤ 400) :
    Calls Try.prog 37 #[.slice p n cap] w (TrimR w c A B n) := by
  have hIn := hR.inC
  refine calls_of Try.func37 rfl (m := 32) rfl [(0, .slice p n cap)] (Fr_enter [.slice p n cap] 32 (Nat.le_of_ble_eq_true rfl)) ?_
  have hH1 : HP Tr w w [] := HP.refl w
  refine WC.seq fun K2 hK2 => ?_
  refine WC.region ?_
  refine WL.pure (v := .slice none 0 0) 2 rfl (Nat.le_of_ble_eq_true rfl) rfl rfl (by kernel_rfl) ?_
  refine WL.pure (v := vI 0) 3 rfl (Nat.le_of_ble_eq_true rfl) rfl rfl (by kernel_rfl) ?_
  refine WL.nil ?_
  refine WQ.then ?_
  refine hK2 _ _ _ ?_
  refine WC.seq fun K3 hK3 => ?_
  refine WC.region ?_
  refine WL.pure (v := .slice p n cap) 7 rfl (Nat.le_of_ble_eq_true rfl) rfl rfl (by kernel_rfl) ?_
  refine WL.call (f := 17) (args := #[.slice p n cap, .bool false]) 8 rfl (Nat.le_of_ble_eq_true rfl) rfl rfl (by kernel_rfl) ?_
  refine (rCheck_any _ _ _ c A B false _ (hIn.below (HP.below hH1)) hn).mono ?_
  rintro e w4 ⟨rfl, hb5⟩
  refine ⟨_, rfl, ?_⟩
  have hH6 : HP Tr w _ [] := HP.call hH1 hb5
  refine WL.pure (v := vI (chk c A B false n)) 4 rfl (Nat.le_of_ble_eq_true rfl) rfl rfl (by kernel_rfl) ?_
  refine WL.nil ?_
  refine WQ.then ?_
  refine hK3 _ _ _ ?_
  refine WC.seq fun K7 hK7 => ?_
  refine WC.seq fun K8 hK8 => ?_
  refine WC.region ?_
  refine WL.pure (v := vI (chk c A B false n)) 9 rfl (Nat.le_of_ble_eq_true rfl) rfl rfl (by kernel_rfl) ?_
  by_cases hc : chk c A B false n ≠ 0
  ·
    refine WL.pure (v := .bool true) 10 rfl (Nat.le_of_ble_eq_true rfl) rfl rfl (x_neq rfl rfl rfl (dT (hc))) ?_
    refine WL.nil ?_
    refine WQ.then ?_
    refine hK8 _ _ _ ?_
    refine WC.yes rfl ?_
    refine WC.seq fun K9 hK9 => ?_
    refine WC.region ?_
    refine WL.pure (v := vI (chk c A B false n)) 11 rfl (Nat.le_of_ble_eq_true rfl) rfl rfl (by kernel_rfl) ?_
    refine WL.pure (v := .slice none 0 0) 2 rfl (Nat.le_of_ble_eq_true rfl) rfl rfl (by kernel_rfl) ?_
    refine WL.pure (v := vI (chk c A B false n)) 3 rfl (Nat.le_of_ble_eq_true rfl) rfl rfl (by kernel_rfl) ?_
    refine WL.nil ?_
    refine WQ.then ?_
    refine hK9 _ _ _ ?_
    refine WC.sub (l' := [(0, .slice p n cap), (2, .slice none 0 0), (3, vI (chk c A B false n)), (4, vI (chk c A B false n)), (10, .bool true)]) ⟨rfl, rfl, rfl, rfl, rfl, trivial⟩ ?_
    refine WC.ret ?_
    refine WQ.thenRet ?_
    refine WQ.ret2 2 3 rfl rfl rfl ?_
    exact .inl ⟨hc, rfl, HP.below hH6⟩
  ·
    refine WL.pure (v := .bool false) 10 rfl (Nat.le_of_ble_eq_true rfl) rfl rfl (x_neq rfl rfl rfl (dF (hc))) ?_
    refine WL.nil ?_
    refine WQ.then ?_
    refine hK8 _ _ _ ?_
    refine WC.no rfl ?_
    refine WC.skip ?_
    refine WQ.then ?_
    refine hK7 _ _ _ ?_
    refine WC.seq fun K10 hK10 => ?_
    refine WC.region ?_
    refine WL.pure (v := .slice none 0 0) 5 rfl (Nat.le_of_ble_eq_true rfl) rfl rfl (by kernel_rfl) ?_
    refine WL.nil ?_
    refine WQ.then ?_
    refine hK10 _ _ _ ?_
    refine WC.seq fun K11 hK11 => ?_
    refine WC.seq fun K12 hK12 => ?_
    refine WC.region ?_
    refine WL.pure (v := vI 0) 6 rfl (Nat.le_of_ble_eq_true rfl) rfl rfl (by kernel_rfl) ?_
    refine WL.nil ?_
    refine WQ.then ?_
    refine hK12 _ _ _ ?_
    refine WC.block ?_
    have hO := HP.ownNil hH6 23 3
    obtain ⟨i0, hi0, hz0, hz1, hz2⟩ := infoR'
    refine WC.loop (fun kk0 ll0 ww0 => ∃ (k : Nat) (v : Value), ll0 = [(0, .slice p n cap), (5, v), (6, vI (k : Int))] ∧ kk0 = n - k ∧ (k ≤ n) ∧ HP Tr w ww0 [.own v (rk c k) (insL (fil c k c) (fil c k A) (fil c k B) (rk c k)) 23 3]) (n) [(0, .slice p n cap), (5, .slice none 0 0), (6, vI 0)] ⟨rfl, rfl, rfl, trivial⟩ ⟨0, .slice none 0 0, rfl, rfl, Nat.zero_le n, hO⟩ ?_
    rintro kk l w14 ⟨k, v, rfl, hkk, hk, hH15⟩ K13 hK13
    obtain ⟨pv, cp, rfl⟩ := own_slice (HP.get hH15 0 rfl)
    refine WC.seq fun K16 hK16 => ?_
    refine WC.seq fun K17 hK17 => ?_
    refine WC.region ?_
    refine WL.pure (v := vI (k : Int)) 12 rfl (Nat.le_of_ble_eq_true rfl) rfl rfl (by kernel_rfl) ?_
    refine WL.pure (v := .slice p n cap) 13 rfl (Nat.le_of_ble_eq_true rfl) rfl rfl (by kernel_rfl) ?_
    refine WL.pure (v := vI (n : Int)) 14 rfl (Nat.le_of_ble_eq_true rfl) rfl rfl (by kernel_rfl) ?_
    by_cases hlt : (k : Int) < (n : Int)
    ·
      refine WL.pure (v := .bool true) 15 rfl (Nat.le_of_ble_eq_true rfl) rfl rfl (x_lss rfl rfl rfl (dT (hlt))) ?_
      refine WL.nil ?_
      refine WQ.then ?_
      refine hK17 _ _ _ ?_
      refine WC.yes rfl ?_
      refine WC.skip ?_
      refine WQ.then ?_
      refine hK16 _ _ _ ?_
      refine WC.seq fun K18 hK18 => ?_
      refine WC.block ?_
      refine WC.seq fun K19 hK19 => ?_
      obtain ⟨bb, oo, rfl, hrow⟩ := hIn (by omega)
      refine WC.region ?_
      refine WL.pure (v := .slice (some ⟨bb, oo, none⟩) n cap) 18 rfl (Nat.le_of_ble_eq_true rfl) rfl rfl (by kernel_rfl) ?_
      refine WL.pure (v := vI (k : Int)) 19 rfl (Nat.le_of_ble_eq_true rfl) rfl rfl (by kernel_rfl) ?_
      refine WL.pure (v := vP bb (oo + k * 3)) 20 rfl (Nat.le_of_ble_eq_true rfl) rfl rfl (x_idx (k) (oo + k * 3) rfl rfl rfl Try.underlying30 sz23 (by omega) (by omega) (by omega)) ?_
      refine WL.pure (v := vP bb (oo + k * 3)) 21 rfl (Nat.le_of_ble_eq_true rfl) rfl rfl (by kernel_rfl) ?_
      refine WL.pure (v := vI (c k)) 22 rfl (Nat.le_of_ble_eq_true rfl) rfl rfl (x_load rfl rfl Try.underlying3 rfl ((HP.oldRange hH15 trivial (hrow k (by omega))) 0 _ rfl)) ?_
      by_cases h0 : c k ≠ 0
      ·
        refine WL.pure (v := .bool true) 23 rfl (Nat.le_of_ble_eq_true rfl) rfl rfl (x_neq rfl rfl rfl (dT (h0))) ?_
        refine WL.nil ?_
        refine WQ.then ?_
        refine hK19 _ _ _ ?_
        refine WC.sub (l' := [(0, .slice (some ⟨bb, oo, none⟩) n cap), (5, .slice pv (rk c k) cp), (6, vI (k : Int)), (15, .bool true), (23, .bool true)]) ⟨rfl, rfl, rfl, rfl, rfl, trivial⟩ ?_
        refine WC.yes rfl ?_
        refine WC.region ?_
        refine WL.pure (v := .slice pv (rk c k) cp) 24 rfl (Nat.le_of_ble_eq_true rfl) rfl rfl (by kernel_rfl) ?_
        refine WL.pure (v := .slice (some ⟨bb, oo, none⟩) n cap) 25 rfl (Nat.le_of_ble_eq_true rfl) rfl rfl (by kernel_rfl) ?_
        refine WL.pure (v := vI (k : Int)) 26 rfl (Nat.le_of_ble_eq_true rfl) rfl rfl (by kernel_rfl) ?_
        refine WL.pure (v := vP bb (oo + k * 3)) 27 rfl (Nat.le_of_ble_eq_true rfl) rfl rfl (x_idx (k) (oo + k * 3) rfl rfl rfl Try.underlying30 sz23 (by omega) (by omega) (by omega)) ?_
        refine WL.pure (v := .agg #[vI (c k), vI (A k), vI (B k)]) 28 rfl (Nat.le_of_ble_eq_true rfl) rfl rfl (x_loadS (cs := [vI (c k), vI (A k), vI (B k)]) rfl rfl Try.underlying23 rfl sz23 (HP.oldRange hH15 trivial (hrow k (by omega)))) ?_
        refine WL.alloc (c := #[vI (c k), vI (A k), vI (B k)]) (T := 23) hH15 29 rfl (by decide) rfl rfl (fun b20 => vS b20 1 1) (by kernel_rfl) (fun b20 w21 hw21 => ?_)
        have hH22 : HP Tr w w21 [.own (.slice pv (rk c k) cp) (rk c k) (insL (fil c k c) (fil c k A) (fil c k B) (rk c k)) 23 3, .cel b20 #[vI (c k), vI (A k), vI (B k)] 23] := hw21.2
        have nb20 := hw21.1
        clear hw21
        have hrk := rk_le c k
        refine WL.append (news := [vI (c k), vI (A k), vI (B k)]) 0 1 hH22 30 rfl (by decide) rfl rfl rfl rfl Try.underlying30 hi0 hz0 hz1 hz2 rfl (by decide) rfl rfl rfl rfl (by simp [Value.oneCell']) (by unfold maxLen; omega) (by omega) ?_
        rintro v2 w7 - hA7
        have hA8 := HP.eq (H' := [.own v2 (rk c (k + 1)) (insL (fil c (k + 1) c) (fil c (k + 1) A) (fil c (k + 1) B) (rk c (k + 1))) 23 3, .cel b20 #[vI (c k), vI (A k), vI (B k)] 23]) hA7 (by rw [fil_push h0, rk_yes h0]; rfl)
        have hH23 : HP Tr w _ [.own v2 (rk c (k + 1)) (insL (fil c (k + 1) c) (fil c (k + 1) A) (fil c (k + 1) B) (rk c (k + 1))) 23 3, .cel b20 #[vI (c k), vI (A k), vI (B k)] 23] := hA8
        refine WL.pure (v := v2) 5 rfl (Nat.le_of_ble_eq_true rfl) rfl rfl (by kernel_rfl) ?_
        refine WL.nil ?_
        refine WQ.inNormal ?_
        refine WQ.then ?_
        refine hK18 _ _ _ ?_
        refine WC.sub (l' := [(0, .slice (some ⟨bb, oo, none⟩) n cap), (5, v2), (6, vI (k : Int)), (15, .bool true), (23, .bool true)]) ⟨rfl, rfl, rfl, rfl, rfl, trivial⟩ ?_
        refine WC.region ?_
        refine WL.pure (v := vI (k : Int)) 16 rfl (Nat.le_of_ble_eq_true rfl) rfl rfl (by kernel_rfl) ?_
        refine WL.pure (v := vI ((k + 1 : Nat) : Int)) 17 rfl (Nat.le_of_ble_eq_true rfl) rfl rfl (x_add (Z := ((k + 1 : Nat) : Int)) rfl rfl rfl (by omega) (by omega) (by omega)) ?_
        refine WL.pure (v := vI ((k + 1 : Nat) : Int)) 6 rfl (Nat.le_of_ble_eq_true rfl) rfl rfl (by kernel_rfl) ?_
        refine WL.nil ?_
        refine WQ.sub (l' := [(0, .slice (some ⟨bb, oo, none⟩) n cap), (5, v2), (6, vI ((k + 1 : Nat) : Int))]) ⟨rfl, rfl, rfl, trivial⟩ ?_
        refine WQ.then (hK13 _ _ _ (by omega) ⟨k + 1, v2, rfl, rfl, by omega, (HP.drop hH23 1)⟩)
      ·
        refine WL.pure (v := .bool false) 23 rfl (Nat.le_of_ble_eq_true rfl) rfl rfl (x_neq rfl rfl rfl (dF (h0))) ?_
        refine WL.nil ?_
        refine WQ.then ?_
        refine hK19 _ _ _ ?_
        refine WC.sub (l' := [(0, .slice (some ⟨bb, oo, none⟩) n cap), (5, .slice pv (rk c k) cp), (6, vI (k : Int)), (15, .bool true), (23, .bool false)]) ⟨rfl, rfl, rfl, rfl, rfl, trivial⟩ ?_
        refine WC.no rfl ?_
        refine WC.skip ?_
        refine WQ.inNormal ?_
        refine WQ.then ?_
        refine hK18 _ _ _ ?_
        refine WC.region ?_
        refine WL.pure (v := vI (k : Int)) 16 rfl (Nat.le_of_ble_eq_true rfl) rfl rfl (by kernel_rfl) ?_
        refine WL.pure (v := vI ((k + 1 : Nat) : Int)) 17 rfl (Nat.le_of_ble_eq_true rfl) rfl rfl (x_add (Z := ((k + 1 : Nat) : Int)) rfl rfl rfl (by omega) (by omega) (by omega)) ?_
        refine WL.pure (v := vI ((k + 1 : Nat) : Int)) 6 rfl (Nat.le_of_ble_eq_true rfl) rfl rfl (by kernel_rfl) ?_
        refine WL.nil ?_
        have hsk := HP.eq (H' := [.own (.slice pv (rk c (k + 1)) cp) (rk c (k + 1)) (insL (fil c (k + 1) c) (fil c (k + 1) A) (fil c (k + 1) B) (rk c (k + 1))) 23 3]) hH15 (by rw [← fil_skip (show c k = 0 by omega), rk_no (show c k = 0 by omega)])
        refine WQ.sub (l' := [(0, .slice (some ⟨bb, oo, none⟩) n cap), (5, .slice pv (rk c k) cp), (6, vI ((k + 1 : Nat) : Int))]) ⟨rfl, rfl, rfl, trivial⟩ ?_
        refine WQ.then (hK13 _ _ _ (by omega) ⟨k + 1, .slice pv (rk c k) cp, rfl, rfl, by omega, (by have q := hsk; rw [show (Value.slice pv (rk c (k + 1)) cp) = .slice pv (rk c k) cp by rw [rk_no (show c k = 0 by omega)]] at q; exact q)⟩)
    ·
      refine WL.pure (v := .bool false) 15 rfl (Nat.le_of_ble_eq_true rfl) rfl rfl (x_lss rfl rfl rfl (dF (hlt))) ?_
      refine WL.nil ?_
      refine WQ.then ?_
      refine hK17 _ _ _ ?_
      refine WC.no rfl ?_
      refine WC.exit ?_
      refine WQ.thenExit ?_
      refine WQ.thenExit ?_
      refine WQ.inExit ?_
      refine WQ.then ?_
      refine hK11 _ _ _ ?_
      refine WC.seq fun K24 hK24 => ?_
      refine WC.region ?_
      refine WL.pure (v := .slice pv (rk c k) cp) 31 rfl (Nat.le_of_ble_eq_true rfl) rfl rfl (by kernel_rfl) ?_
      refine WL.pure (v := .slice pv (rk c k) cp) 2 rfl (Nat.le_of_ble_eq_true rfl) rfl rfl (by kernel_rfl) ?_
      refine WL.pure (v := vI 0) 3 rfl (Nat.le_of_ble_eq_true rfl) rfl rfl (by kernel_rfl) ?_
      refine WL.nil ?_
      refine WQ.then ?_
      refine hK24 _ _ _ ?_
      refine WC.ret ?_
      refine WQ.ret2 2 3 rfl rfl rfl ?_
      obtain rfl : n = k := by omega
      exact .inr ⟨by omega, pv, cp, rfl, hH15⟩
set_option maxRecDepth 20000 in
set_option maxHeartbeats 4000000 in
theorem Count_any (p : Option Addr) (n cap : Nat) (c A B : Nat → Int) (op : Int) (w : World) (hR : RowIn w p n cap c A B) (hn : n ≤ 400) :
    Calls Try.prog 38 #[.slice p n cap, vI op] w fun e w' => e = .returned (.tuple #[vI (coN c A B n op), vI (coF c A B n op)]) ∧ Below w.heap.size w w' := by
  have hIn := hR.inC
  refine calls_of Try.func38 rfl (m := 38) rfl [(0, .slice p n cap), (1, vI op)] (Fr_enter [.slice p n cap, vI op] 38 (Nat.le_of_ble_eq_true rfl)) ?_
  have hH1 : HP Tr w w [] := HP.refl w
  refine WC.seq fun K2 hK2 => ?_
  refine WC.region ?_
  refine WL.pure (v := vI 0) 4 rfl (Nat.le_of_ble_eq_true rfl) rfl rfl (by kernel_rfl) ?_
  refine WL.pure (v := vI 0) 5 rfl (Nat.le_of_ble_eq_true rfl) rfl rfl (by kernel_rfl) ?_
  refine WL.nil ?_
  refine WQ.then ?_
  refine hK2 _ _ _ ?_
  refine WC.seq fun K3 hK3 => ?_
  refine WC.seq fun K4 hK4 => ?_
  refine WC.region ?_
  refine WL.pure (v := .slice p n cap) 12 rfl (Nat.le_of_ble_eq_true rfl) rfl rfl (by kernel_rfl) ?_
  refine WL.call (f := 16) (args := #[.slice p n cap, .bool false]) 13 rfl (Nat.le_of_ble_eq_true rfl) rfl rfl (by kernel_rfl) ?_
  refine (Check_any _ _ _ c A B false _ (hIn.below (HP.below hH1)) hn).mono ?_
  rintro e w5 ⟨rfl, hb6⟩
  refine ⟨_, rfl, ?_⟩
  have hH7 : HP Tr w _ [] := HP.call hH1 hb6
  refine WL.pure (v := vI (chk c A B false n)) 6 rfl (Nat.le_of_ble_eq_true rfl) rfl rfl (by kernel_rfl) ?_
  refine WL.nil ?_
  refine WQ.then ?_
  refine hK4 _ _ _ ?_
  refine WC.seq fun K8 hK8 => ?_
  refine WC.region ?_
  refine WL.pure (v := vI (chk c A B false n)) 14 rfl (Nat.le_of_ble_eq_true rfl) rfl rfl (by kernel_rfl) ?_
  by_cases hc : chk c A B false n ≠ 0
  ·
    refine WL.pure (v := .bool true) 15 rfl (Nat.le_of_ble_eq_true rfl) rfl rfl (x_neq rfl rfl rfl (dT (hc))) ?_
    refine WL.nil ?_
    refine WQ.then ?_
    refine hK8 _ _ _ ?_
    refine WC.yes rfl ?_
    refine WC.seq fun K9 hK9 => ?_
    refine WC.region ?_
    refine WL.pure (v := vI (chk c A B false n)) 16 rfl (Nat.le_of_ble_eq_true rfl) rfl rfl (by kernel_rfl) ?_
    refine WL.pure (v := vI 0) 4 rfl (Nat.le_of_ble_eq_true rfl) rfl rfl (by kernel_rfl) ?_
    refine WL.pure (v := vI (chk c A B false n)) 5 rfl (Nat.le_of_ble_eq_true rfl) rfl rfl (by kernel_rfl) ?_
    refine WL.nil ?_
    refine WQ.then ?_
    refine hK9 _ _ _ ?_
    refine WC.sub (l' := [(0, .slice p n cap), (1, vI op), (4, vI 0), (5, vI (chk c A B false n)), (6, vI (chk c A B false n)), (15, .bool true)]) ⟨rfl, rfl, rfl, rfl, rfl, rfl, trivial⟩ ?_
    refine WC.ret ?_
    refine WQ.thenRet ?_
    refine WQ.ret2 4 5 rfl rfl rfl ?_
    have q : coF c A B n op = chk c A B false n ∧ coN c A B n op = 0 := co_bad hc
    exact ⟨by rw [q.1, q.2], HP.below hH7⟩
  ·
    refine WL.pure (v := .bool false) 15 rfl (Nat.le_of_ble_eq_true rfl) rfl rfl (x_neq rfl rfl rfl (dF (hc))) ?_
    refine WL.nil ?_
    refine WQ.then ?_
    refine hK8 _ _ _ ?_
    refine WC.no rfl ?_
    refine WC.skip ?_
    refine WQ.then ?_
    refine hK3 _ _ _ ?_
    refine WC.seq fun K10 hK10 => ?_
    refine WC.seq fun K11 hK11 => ?_
    refine WC.region ?_
    refine WL.pure (v := vI op) 18 rfl (Nat.le_of_ble_eq_true rfl) rfl rfl (by kernel_rfl) ?_
    by_cases hop2 : op < 0 ∨ 35 < op
    ·
      refine WL.call (f := 40) (args := #[vI op]) 19 rfl (Nat.le_of_ble_eq_true rfl) rfl rfl (by kernel_rfl) ?_
      refine (known_bad op (by omega) _).mono ?_
      rintro e w12 ⟨rfl, hb13⟩
      refine ⟨_, rfl, ?_⟩
      have hH14 : HP Tr w _ [] := HP.call hH7 hb13
      refine WL.pure (v := .tuple #[.agg #[.string (⟨#[]⟩), vI 0, vI 0, vI 0], .bool false]) 17 rfl (Nat.le_of_ble_eq_true rfl) rfl rfl (by kernel_rfl) ?_
      refine WL.pure (v := .agg #[.string (⟨#[]⟩), vI 0, vI 0, vI 0]) 20 rfl (Nat.le_of_ble_eq_true rfl) rfl rfl (by kernel_rfl) ?_
      refine WL.pure (v := .bool false) 21 rfl (Nat.le_of_ble_eq_true rfl) rfl rfl (by kernel_rfl) ?_
      refine WL.alloc (c := #[.string (⟨#[]⟩), vI 0, vI 0, vI 0]) (T := 54) hH14 7 rfl (by decide) rfl rfl (fun b15 => vP b15 0) (by kernel_rfl) (fun b15 w16 hw16 => ?_)
      have hH17 : HP Tr w w16 [.cel b15 #[.string (⟨#[]⟩), vI 0, vI 0, vI 0] 54] := hw16.2
      have nb15 := hw16.1
      clear hw16
      refine WL.storeS (H2 := [.cel b15 #[.string (⟨#[]⟩), vI 0, vI 0, vI 0] 54]) 0 hH17 rfl rfl rfl rfl rfl rfl sz54 rfl (Nat.le_of_ble_eq_true rfl) rfl rfl ?_
      intro w18 hH19
      refine WL.pure (v := .bool false) 8 rfl (Nat.le_of_ble_eq_true rfl) rfl rfl (by kernel_rfl) ?_
      refine WL.nil ?_
      refine WQ.then ?_
      refine hK11 _ _ _ ?_
      refine WC.sub (l' := [(0, .slice p n cap), (1, vI op), (4, vI 0), (5, vI 0), (6, vI (chk c A B false n)), (8, .bool false), (15, .bool false)]) ⟨rfl, rfl, rfl, rfl, rfl, rfl, rfl, trivial⟩ ?_
      refine WC.seq fun K20 hK20 => ?_
      refine WC.region ?_
      refine WL.pure (v := .bool false) 22 rfl (Nat.le_of_ble_eq_true rfl) rfl rfl (by kernel_rfl) ?_
      refine WL.pure (v := .bool true) 23 rfl (Nat.le_of_ble_eq_true rfl) rfl rfl (by kernel_rfl) ?_
      refine WL.nil ?_
      refine WQ.then ?_
      refine hK20 _ _ _ ?_
      refine WC.yes rfl ?_
      refine WC.seq fun K21 hK21 => ?_
      refine WC.region ?_
      refine WL.pure (v := vI 0) 4 rfl (Nat.le_of_ble_eq_true rfl) rfl rfl (by kernel_rfl) ?_
      refine WL.pure (v := vI 1) 5 rfl (Nat.le_of_ble_eq_true rfl) rfl rfl (by kernel_rfl) ?_
      refine WL.nil ?_
      refine WQ.then ?_
      refine hK21 _ _ _ ?_
      refine WC.ret ?_
      refine WQ.thenRet ?_
      refine WQ.ret2 4 5 rfl rfl rfl ?_
      have q : coF c A B n op = 1 ∧ coN c A B n op = 0 := co_arg (by omega) (by omega)
      exact ⟨by rw [q.1, q.2], HP.below hH19⟩
    ·
      obtain ⟨kk1, hkk1⟩ : ∃ k : Nat, op = (k : Int) := ⟨op.toNat, by omega⟩
      have hkn := known_ok kk1 (by omega)
      rw [← hkk1] at hkn
      refine WL.call (f := 40) (args := #[vI op]) 19 rfl (Nat.le_of_ble_eq_true rfl) rfl rfl (by kernel_rfl) ?_
      refine (hkn _).mono ?_
      rintro e w22 ⟨rfl, hb23⟩
      refine ⟨_, rfl, ?_⟩
      have hH24 : HP Tr w _ [] := HP.call hH7 hb23
      refine WL.pure (v := .tuple #[.agg #[.string ((sp kk1).n), vI ((sp kk1).a), vI ((sp kk1).b), vI ((sp kk1).c)], .bool true]) 17 rfl (Nat.le_of_ble_eq_true rfl) rfl rfl (by kernel_rfl) ?_
      refine WL.pure (v := .agg #[.string ((sp kk1).n), vI ((sp kk1).a), vI ((sp kk1).b), vI ((sp kk1).c)]) 20 rfl (Nat.le_of_ble_eq_true rfl) rfl rfl (by kernel_rfl) ?_
      refine WL.pure (v := .bool true) 21 rfl (Nat.le_of_ble_eq_true rfl) rfl rfl (by kernel_rfl) ?_
      refine WL.alloc (c := #[.string (⟨#[]⟩), vI 0, vI 0, vI 0]) (T := 54) hH24 7 rfl (by decide) rfl rfl (fun b25 => vP b25 0) (by kernel_rfl) (fun b25 w26 hw26 => ?_)
      have hH27 : HP Tr w w26 [.cel b25 #[.string (⟨#[]⟩), vI 0, vI 0, vI 0] 54] := hw26.2
      have nb25 := hw26.1
      clear hw26
      refine WL.storeS (H2 := [.cel b25 #[.string ((sp kk1).n), vI ((sp kk1).a), vI ((sp kk1).b), vI ((sp kk1).c)] 54]) 0 hH27 rfl rfl rfl rfl rfl rfl sz54 rfl (Nat.le_of_ble_eq_true rfl) rfl rfl ?_
      intro w28 hH29
      refine WL.pure (v := .bool true) 8 rfl (Nat.le_of_ble_eq_true rfl) rfl rfl (by kernel_rfl) ?_
      refine WL.nil ?_
      refine WQ.then ?_
      refine hK11 _ _ _ ?_
      refine WC.sub (l' := [(0, .slice p n cap), (1, vI op), (4, vI 0), (5, vI 0), (6, vI (chk c A B false n)), (8, .bool true), (15, .bool false)]) ⟨rfl, rfl, rfl, rfl, rfl, rfl, rfl, trivial⟩ ?_
      refine WC.seq fun K30 hK30 => ?_
      refine WC.region ?_
      refine WL.pure (v := .bool true) 22 rfl (Nat.le_of_ble_eq_true rfl) rfl rfl (by kernel_rfl) ?_
      refine WL.pure (v := .bool false) 23 rfl (Nat.le_of_ble_eq_true rfl) rfl rfl (by kernel_rfl) ?_
      refine WL.nil ?_
      refine WQ.then ?_
      refine hK30 _ _ _ ?_
      refine WC.no rfl ?_
      refine WC.skip ?_
      refine WQ.then ?_
      refine hK10 _ _ _ ?_
      refine WC.seq fun K31 hK31 => ?_
      refine WC.region ?_
      refine WL.pure (v := vI 0) 9 rfl (Nat.le_of_ble_eq_true rfl) rfl rfl (by kernel_rfl) ?_
      refine WL.nil ?_
      refine WQ.then ?_
      refine hK31 _ _ _ ?_
      refine WC.seq fun K32 hK32 => ?_
      refine WC.seq fun K33 hK33 => ?_
      refine WC.region ?_
      refine WL.pure (v := .slice p n cap) 24 rfl (Nat.le_of_ble_eq_true rfl) rfl rfl (by kernel_rfl) ?_
      refine WL.pure (v := vI (n : Int)) 25 rfl (Nat.le_of_ble_eq_true rfl) rfl rfl (by kernel_rfl) ?_
      refine WL.pure (v := vI 0) 26 rfl (Nat.le_of_ble_eq_true rfl) rfl rfl (by kernel_rfl) ?_
      refine WL.nil ?_
      refine WQ.then ?_
      refine hK33 _ _ _ ?_
      refine WC.block ?_
      refine WC.loop (fun kk0 ll0 ww0 => ∃ (k : Nat) (m : Nat), ll0 = [(1, vI op), (9, vI (m : Int)), (24, .slice p n cap), (25, vI (n : Int)), (26, vI (k : Int))] ∧ kk0 = n - k ∧ (k ≤ n) ∧ (m = cn c op k) ∧ HP Tr w ww0 []) (n) [(1, vI op), (9, vI 0), (24, .slice p n cap), (25, vI (n : Int)), (26, vI 0)] ⟨rfl, rfl, rfl, rfl, rfl, trivial⟩ ⟨0, 0, rfl, rfl, Nat.zero_le n, rfl, (HP.drop hH29 0)⟩ ?_
      rintro kk l w35 ⟨k, m, rfl, hkk, hk, hm, hH36⟩ K34 hK34
      refine WC.seq fun K37 hK37 => ?_
      refine WC.region ?_
      by_cases hlt : (k : Int) < (n : Int)
      ·
        refine WL.pure (v := .bool true) 27 rfl (Nat.le_of_ble_eq_true rfl) rfl rfl (x_lss rfl rfl rfl (dT (hlt))) ?_
        refine WL.nil ?_
        refine WQ.then ?_
        refine hK37 _ _ _ ?_
        refine WC.seq fun K38 hK38 => ?_
        refine WC.yes rfl ?_
        refine WC.skip ?_
        refine WQ.then ?_
        refine hK38 _ _ _ ?_
        refine WC.seq fun K39 hK39 => ?_
        refine WC.block ?_
        refine WC.seq fun K40 hK40 => ?_
        obtain ⟨bb, oo, rfl, hrow⟩ := hIn (by omega)
        refine WC.region ?_
        refine WL.pure (v := vP bb (oo + k * 3)) 28 rfl (Nat.le_of_ble_eq_true rfl) rfl rfl (x_idx (k) (oo + k * 3) rfl rfl rfl Try.underlying30 sz23 (by omega) (by omega) (by omega)) ?_
        refine WL.pure (v := .agg #[vI (c k), vI (A k), vI (B k)]) 29 rfl (Nat.le_of_ble_eq_true rfl) rfl rfl (x_loadS (cs := [vI (c k), vI (A k), vI (B k)]) rfl rfl Try.underlying23 rfl sz23 (HP.oldRange hH36 trivial (hrow k (by omega)))) ?_
        refine WL.alloc (c := #[vI 0, vI 0, vI 0]) (T := 23) hH36 11 rfl (by decide) rfl rfl (fun b41 => vP b41 0) (by kernel_rfl) (fun b41 w42 hw42 => ?_)
        have hH43 : HP Tr w w42 [.cel b41 #[vI 0, vI 0, vI 0] 23] := hw42.2
        have nb41 := hw42.1
        clear hw42
        refine WL.storeS (H2 := [.cel b41 #[vI (c k), vI (A k), vI (B k)] 23]) 0 hH43 rfl rfl rfl rfl rfl rfl sz23 rfl (Nat.le_of_ble_eq_true rfl) rfl rfl ?_
        intro w44 hH45
        refine WL.nil ?_
        refine WQ.then ?_
        refine hK40 _ _ _ ?_
        refine WC.seq fun K46 hK46 => ?_
        refine WC.region ?_
        refine WL.pure (v := vP b41 0) 30 rfl (Nat.le_of_ble_eq_true rfl) rfl rfl (by kernel_rfl) ?_
        refine WL.pure (v := vI (c k)) 31 rfl (Nat.le_of_ble_eq_true rfl) rfl rfl (x_load rfl rfl Try.underlying3 rfl (HP.cell hH45 0 rfl rfl)) ?_
        refine WL.pure (v := vI op) 32 rfl (Nat.le_of_ble_eq_true rfl) rfl rfl (by kernel_rfl) ?_
        by_cases hop : c k = op
        ·
          refine WL.pure (v := .bool true) 33 rfl (Nat.le_of_ble_eq_true rfl) rfl rfl (x_eql rfl rfl rfl (dT (hop))) ?_
          refine WL.nil ?_
          refine WQ.then ?_
          refine hK46 _ _ _ ?_
          refine WC.yes rfl ?_
          have hcl := cn_le c op k
          refine WC.region ?_
          refine WL.pure (v := vI (m : Int)) 34 rfl (Nat.le_of_ble_eq_true rfl) rfl rfl (by kernel_rfl) ?_
          refine WL.pure (v := vI ((m + 1 : Nat) : Int)) 35 rfl (Nat.le_of_ble_eq_true rfl) rfl rfl (x_add (Z := ((m + 1 : Nat) : Int)) rfl rfl rfl (by omega) (by omega) (by omega)) ?_
          refine WL.pure (v := vI ((m + 1 : Nat) : Int)) 9 rfl (Nat.le_of_ble_eq_true rfl) rfl rfl (by kernel_rfl) ?_
          refine WL.nil ?_
          refine WQ.inNormal ?_
          refine WQ.then ?_
          refine hK39 _ _ _ ?_
          refine WC.sub (l' := [(1, vI op), (9, vI ((m + 1 : Nat) : Int)), (11, vP b41 0), (24, .slice (some ⟨bb, oo, none⟩) n cap), (25, vI (n : Int)), (26, vI (k : Int)), (27, .bool true), (33, .bool true)]) ⟨rfl, rfl, rfl, rfl, rfl, rfl, rfl, rfl, trivial⟩ ?_
          refine WC.region ?_
          refine WL.pure (v := vI ((k + 1 : Nat) : Int)) 36 rfl (Nat.le_of_ble_eq_true rfl) rfl rfl (x_add (Z := ((k + 1 : Nat) : Int)) rfl rfl rfl (by omega) (by omega) (by omega)) ?_
          refine WL.pure (v := vI ((k + 1 : Nat) : Int)) 26 rfl (Nat.le_of_ble_eq_true rfl) rfl rfl (by kernel_rfl) ?_
          refine WL.nil ?_
          refine WQ.sub (l' := [(1, vI op), (9, vI ((m + 1 : Nat) : Int)), (24, .slice (some ⟨bb, oo, none⟩) n cap), (25, vI (n : Int)), (26, vI ((k + 1 : Nat) : Int))]) ⟨rfl, rfl, rfl, rfl, rfl, trivial⟩ ?_
          refine WQ.then (hK34 _ _ _ (by omega) ⟨k + 1, m + 1, rfl, rfl, by omega, by rw [cn_yes hop, hm], (HP.drop hH45 0)⟩)
        ·
          refine WL.pure (v := .bool false) 33 rfl (Nat.le_of_ble_eq_true rfl) rfl rfl (x_eql rfl rfl rfl (dF (hop))) ?_
          refine WL.nil ?_
          refine WQ.then ?_
          refine hK46 _ _ _ ?_
          refine WC.no rfl ?_
          refine WC.skip ?_
          refine WQ.inNormal ?_
          refine WQ.then ?_
          refine hK39 _ _ _ ?_
          refine WC.region ?_
          refine WL.pure (v := vI ((k + 1 : Nat) : Int)) 36 rfl (Nat.le_of_ble_eq_true rfl) rfl rfl (x_add (Z := ((k + 1 : Nat) : Int)) rfl rfl rfl (by omega) (by omega) (by omega)) ?_
          refine WL.pure (v := vI ((k + 1 : Nat) : Int)) 26 rfl (Nat.le_of_ble_eq_true rfl) rfl rfl (by kernel_rfl) ?_
          refine WL.nil ?_
          refine WQ.sub (l' := [(1, vI op), (9, vI (m : Int)), (24, .slice (some ⟨bb, oo, none⟩) n cap), (25, vI (n : Int)), (26, vI ((k + 1 : Nat) : Int))]) ⟨rfl, rfl, rfl, rfl, rfl, trivial⟩ ?_
          refine WQ.then (hK34 _ _ _ (by omega) ⟨k + 1, m, rfl, rfl, by omega, by rw [cn_no hop, hm], (HP.drop hH45 0)⟩)
      ·
        refine WL.pure (v := .bool false) 27 rfl (Nat.le_of_ble_eq_true rfl) rfl rfl (x_lss rfl rfl rfl (dF (hlt))) ?_
        refine WL.nil ?_
        refine WQ.then ?_
        refine hK37 _ _ _ ?_
        refine WC.seq fun K47 hK47 => ?_
        refine WC.no rfl ?_
        refine WC.exit ?_
        refine WQ.thenExit ?_
        refine WQ.thenExit ?_
        refine WQ.inExit ?_
        refine WQ.then ?_
        refine hK32 _ _ _ ?_
        refine WC.seq fun K48 hK48 => ?_
        refine WC.region ?_
        refine WL.pure (v := vI (m : Int)) 37 rfl (Nat.le_of_ble_eq_true rfl) rfl rfl (by kernel_rfl) ?_
        refine WL.pure (v := vI (m : Int)) 4 rfl (Nat.le_of_ble_eq_true rfl) rfl rfl (by kernel_rfl) ?_
        refine WL.pure (v := vI 0) 5 rfl (Nat.le_of_ble_eq_true rfl) rfl rfl (by kernel_rfl) ?_
        refine WL.nil ?_
        refine WQ.then ?_
        refine hK48 _ _ _ ?_
        refine WC.ret ?_
        refine WQ.ret2 4 5 rfl rfl rfl ?_
        have q : coF c A B n op = 0 ∧ coN c A B n op = (m : Int) := by have q := co_ok (c := c) (A := A) (B := B) (n := n) (op := op) (by omega) (by omega); rw [q.1, q.2, hm, show n = k by omega]; exact ⟨rfl, rfl⟩
        exact ⟨by rw [q.1, q.2], HP.below hH36⟩
set_option maxRecDepth 20000 in
set_option maxHeartbeats 4000000 in
theorem rCount_any (p : Option Addr) (n cap : Nat) (c A B : Nat → Int) (op : Int) (w : World) (hR : RowIn w p n cap c A B) (hn : n ≤ 400) :
    Calls Try.prog 39 #[.slice p n cap, vI op] w fun e w' => e = .returned (.tuple #[vI (coN c A B n op), vI (coF c A B n op)]) ∧ Below w.heap.size w w' := by
  have hIn := hR.inC
  refine calls_of Try.func39 rfl (m := 40) rfl [(0, .slice p n cap), (1, vI op)] (Fr_enter [.slice p n cap, vI op] 40 (Nat.le_of_ble_eq_true rfl)) ?_
  have hH1 : HP Tr w w [] := HP.refl w
  refine WC.seq fun K2 hK2 => ?_
  refine WC.region ?_
  refine WL.pure (v := vI 0) 4 rfl (Nat.le_of_ble_eq_true rfl) rfl rfl (by kernel_rfl) ?_
  refine WL.pure (v := vI 0) 5 rfl (Nat.le_of_ble_eq_true rfl) rfl rfl (by kernel_rfl) ?_
  refine WL.nil ?_
  refine WQ.then ?_
  refine hK2 _ _ _ ?_
  refine WC.seq fun K3 hK3 => ?_
  refine WC.region ?_
  refine WL.pure (v := .slice p n cap) 9 rfl (Nat.le_of_ble_eq_true rfl) rfl rfl (by kernel_rfl) ?_
  refine WL.call (f := 17) (args := #[.slice p n cap, .bool false]) 10 rfl (Nat.le_of_ble_eq_true rfl) rfl rfl (by kernel_rfl) ?_
  refine (rCheck_any _ _ _ c A B false _ (hIn.below (HP.below hH1)) hn).mono ?_
  rintro e w4 ⟨rfl, hb5⟩
  refine ⟨_, rfl, ?_⟩
  have hH6 : HP Tr w _ [] := HP.call hH1 hb5
  refine WL.pure (v := vI (chk c A B false n)) 6 rfl (Nat.le_of_ble_eq_true rfl) rfl rfl (by kernel_rfl) ?_
  refine WL.nil ?_
  refine WQ.then ?_
  refine hK3 _ _ _ ?_
  refine WC.seq fun K7 hK7 => ?_
  refine WC.seq fun K8 hK8 => ?_
  refine WC.region ?_
  refine WL.pure (v := vI (chk c A B false n)) 11 rfl (Nat.le_of_ble_eq_true rfl) rfl rfl (by kernel_rfl) ?_
  by_cases hc0 : chk c A B false n = 0
  ·
    refine WL.pure (v := .bool true) 12 rfl (Nat.le_of_ble_eq_true rfl) rfl rfl (x_eql rfl rfl rfl (dT (hc0))) ?_
    refine WL.pure (v := .bool true) 13 rfl (Nat.le_of_ble_eq_true rfl) rfl rfl (by kernel_rfl) ?_
    refine WL.pure (v := vI op) 14 rfl (Nat.le_of_ble_eq_true rfl) rfl rfl (by kernel_rfl) ?_
    by_cases h1 : op < 0
    ·
      refine WL.pure (v := .bool true) 15 rfl (Nat.le_of_ble_eq_true rfl) rfl rfl (x_lss rfl rfl rfl (dT (h1))) ?_
      refine WL.pure (v := .bool true) 16 rfl (Nat.le_of_ble_eq_true rfl) rfl rfl (by kernel_rfl) ?_
      refine WL.pass 17 rfl (Nat.le_of_ble_eq_true rfl) rfl ?_
      refine WL.pass 18 rfl (Nat.le_of_ble_eq_true rfl) rfl ?_
      refine WL.pure (v := .bool true) 19 rfl (Nat.le_of_ble_eq_true rfl) rfl rfl (by kernel_rfl) ?_
      refine WL.pure (v := .bool true) 20 rfl (Nat.le_of_ble_eq_true rfl) rfl rfl (by kernel_rfl) ?_
      refine WL.nil ?_
      refine WQ.then ?_
      refine hK8 _ _ _ ?_
      refine WC.sub (l' := [(0, .slice p n cap), (1, vI op), (4, vI 0), (5, vI 0), (6, vI (chk c A B false n)), (20, .bool true)]) ⟨rfl, rfl, rfl, rfl, rfl, rfl, trivial⟩ ?_
      refine WC.yes rfl ?_
      refine WC.region ?_
      refine WL.pure (v := vI 1) 6 rfl (Nat.le_of_ble_eq_true rfl) rfl rfl (by kernel_rfl) ?_
      refine WL.nil ?_
      refine WQ.then ?_
      refine hK7 _ _ _ ?_
      refine WC.seq fun K9 hK9 => ?_
      refine WC.seq fun K10 hK10 => ?_
      refine WC.region ?_
      refine WL.pure (v := vI 1) 21 rfl (Nat.le_of_ble_eq_true rfl) rfl rfl (by kernel_rfl) ?_
      refine WL.pure (v := .bool true) 22 rfl (Nat.le_of_ble_eq_true rfl) rfl rfl (x_neq rfl rfl rfl (by decide)) ?_
      refine WL.nil ?_
      refine WQ.then ?_
      refine hK10 _ _ _ ?_
      refine WC.yes rfl ?_
      refine WC.seq fun K11 hK11 => ?_
      refine WC.region ?_
      refine WL.pure (v := vI 1) 23 rfl (Nat.le_of_ble_eq_true rfl) rfl rfl (by kernel_rfl) ?_
      refine WL.pure (v := vI 0) 4 rfl (Nat.le_of_ble_eq_true rfl) rfl rfl (by kernel_rfl) ?_
      refine WL.pure (v := vI 1) 5 rfl (Nat.le_of_ble_eq_true rfl) rfl rfl (by kernel_rfl) ?_
      refine WL.nil ?_
      refine WQ.then ?_
      refine hK11 _ _ _ ?_
      refine WC.ret ?_
      refine WQ.thenRet ?_
      refine WQ.ret2 4 5 rfl rfl rfl ?_
      have q : coF c A B n op = 1 ∧ coN c A B n op = 0 := co_arg (by omega) (by omega)
      exact ⟨by rw [q.1, q.2], HP.below hH6⟩
    ·
      refine WL.pure (v := .bool false) 15 rfl (Nat.le_of_ble_eq_true rfl) rfl rfl (x_lss rfl rfl rfl (dF (h1))) ?_
      refine WL.pure (v := .bool false) 16 rfl (Nat.le_of_ble_eq_true rfl) rfl rfl (by kernel_rfl) ?_
      refine WL.pure (v := vI op) 17 rfl (Nat.le_of_ble_eq_true rfl) rfl rfl (by kernel_rfl) ?_
      by_cases h2 : (35 : Int) < op
      ·
        refine WL.pure (v := .bool true) 18 rfl (Nat.le_of_ble_eq_true rfl) rfl rfl (x_gtr rfl rfl rfl (dT (h2))) ?_
        refine WL.pure (v := .bool true) 19 rfl (Nat.le_of_ble_eq_true rfl) rfl rfl (by kernel_rfl) ?_
        refine WL.pure (v := .bool true) 20 rfl (Nat.le_of_ble_eq_true rfl) rfl rfl (by kernel_rfl) ?_
        refine WL.nil ?_
        refine WQ.then ?_
        refine hK8 _ _ _ ?_
        refine WC.sub (l' := [(0, .slice p n cap), (1, vI op), (4, vI 0), (5, vI 0), (6, vI (chk c A B false n)), (20, .bool true)]) ⟨rfl, rfl, rfl, rfl, rfl, rfl, trivial⟩ ?_
        refine WC.yes rfl ?_
        refine WC.region ?_
        refine WL.pure (v := vI 1) 6 rfl (Nat.le_of_ble_eq_true rfl) rfl rfl (by kernel_rfl) ?_
        refine WL.nil ?_
        refine WQ.then ?_
        refine hK7 _ _ _ ?_
        refine WC.seq fun K12 hK12 => ?_
        refine WC.seq fun K13 hK13 => ?_
        refine WC.region ?_
        refine WL.pure (v := vI 1) 21 rfl (Nat.le_of_ble_eq_true rfl) rfl rfl (by kernel_rfl) ?_
        refine WL.pure (v := .bool true) 22 rfl (Nat.le_of_ble_eq_true rfl) rfl rfl (x_neq rfl rfl rfl (by decide)) ?_
        refine WL.nil ?_
        refine WQ.then ?_
        refine hK13 _ _ _ ?_
        refine WC.yes rfl ?_
        refine WC.seq fun K14 hK14 => ?_
        refine WC.region ?_
        refine WL.pure (v := vI 1) 23 rfl (Nat.le_of_ble_eq_true rfl) rfl rfl (by kernel_rfl) ?_
        refine WL.pure (v := vI 0) 4 rfl (Nat.le_of_ble_eq_true rfl) rfl rfl (by kernel_rfl) ?_
        refine WL.pure (v := vI 1) 5 rfl (Nat.le_of_ble_eq_true rfl) rfl rfl (by kernel_rfl) ?_
        refine WL.nil ?_
        refine WQ.then ?_
        refine hK14 _ _ _ ?_
        refine WC.ret ?_
        refine WQ.thenRet ?_
        refine WQ.ret2 4 5 rfl rfl rfl ?_
        have q : coF c A B n op = 1 ∧ coN c A B n op = 0 := co_arg (by omega) (by omega)
        exact ⟨by rw [q.1, q.2], HP.below hH6⟩
      ·
        refine WL.pure (v := .bool false) 18 rfl (Nat.le_of_ble_eq_true rfl) rfl rfl (x_gtr rfl rfl rfl (dF (h2))) ?_
        refine WL.pure (v := .bool false) 19 rfl (Nat.le_of_ble_eq_true rfl) rfl rfl (by kernel_rfl) ?_
        refine WL.pure (v := .bool false) 20 rfl (Nat.le_of_ble_eq_true rfl) rfl rfl (by kernel_rfl) ?_
        refine WL.nil ?_
        refine WQ.then ?_
        refine hK8 _ _ _ ?_
        refine WC.sub (l' := [(0, .slice p n cap), (1, vI op), (4, vI 0), (5, vI 0), (6, vI (chk c A B false n)), (20, .bool false)]) ⟨rfl, rfl, rfl, rfl, rfl, rfl, trivial⟩ ?_
        refine WC.no rfl ?_
        refine WC.skip ?_
        refine WQ.then ?_
        refine hK7 _ _ _ ?_
        refine WC.seq fun K15 hK15 => ?_
        refine WC.seq fun K16 hK16 => ?_
        refine WC.region ?_
        refine WL.pure (v := vI (chk c A B false n)) 21 rfl (Nat.le_of_ble_eq_true rfl) rfl rfl (by kernel_rfl) ?_
        refine WL.pure (v := .bool false) 22 rfl (Nat.le_of_ble_eq_true rfl) rfl rfl (x_neq rfl rfl rfl (dF (fun h => h hc0))) ?_
        refine WL.nil ?_
        refine WQ.then ?_
        refine hK16 _ _ _ ?_
        refine WC.no rfl ?_
        refine WC.skip ?_
        refine WQ.then ?_
        refine hK15 _ _ _ ?_
        refine WC.seq fun K17 hK17 => ?_
        refine WC.region ?_
        refine WL.pure (v := vI 0) 7 rfl (Nat.le_of_ble_eq_true rfl) rfl rfl (by kernel_rfl) ?_
        refine WL.nil ?_
        refine WQ.then ?_
        refine hK17 _ _ _ ?_
        refine WC.seq fun K18 hK18 => ?_
        refine WC.seq fun K19 hK19 => ?_
        refine WC.region ?_
        refine WL.pure (v := vI 0) 8 rfl (Nat.le_of_ble_eq_true rfl) rfl rfl (by kernel_rfl) ?_
        refine WL.nil ?_
        refine WQ.then ?_
        refine hK19 _ _ _ ?_
        refine WC.block ?_
        refine WC.loop (fun kk0 ll0 ww0 => ∃ (k : Nat) (m : Nat), ll0 = [(0, .slice p n cap), (1, vI op), (7, vI (m : Int)), (8, vI (k : Int))] ∧ kk0 = n - k ∧ (k ≤ n) ∧ (m = cn c op k) ∧ HP Tr w ww0 []) (n) [(0, .slice p n cap), (1, vI op), (7, vI 0), (8, vI 0)] ⟨rfl, rfl, rfl, rfl, trivial⟩ ⟨0, 0, rfl, rfl, Nat.zero_le n, rfl, hH6⟩ ?_
        rintro kk l w21 ⟨k, m, rfl, hkk, hk, hm, hH22⟩ K20 hK20
        refine WC.seq fun K23 hK23 => ?_
        refine WC.seq fun K24 hK24 => ?_
        refine WC.region ?_
        refine WL.pure (v := vI (k : Int)) 24 rfl (Nat.le_of_ble_eq_true rfl) rfl rfl (by kernel_rfl) ?_
        refine WL.pure (v := .slice p n cap) 25 rfl (Nat.le_of_ble_eq_true rfl) rfl rfl (by kernel_rfl) ?_
        refine WL.pure (v := vI (n : Int)) 26 rfl (Nat.le_of_ble_eq_true rfl) rfl rfl (by kernel_rfl) ?_
        by_cases hlt : (k : Int) < (n : Int)
        ·
          refine WL.pure (v := .bool true) 27 rfl (Nat.le_of_ble_eq_true rfl) rfl rfl (x_lss rfl rfl rfl (dT (hlt))) ?_
          refine WL.nil ?_
          refine WQ.then ?_
          refine hK24 _ _ _ ?_
          refine WC.yes rfl ?_
          refine WC.skip ?_
          refine WQ.then ?_
          refine hK23 _ _ _ ?_
          refine WC.seq fun K25 hK25 => ?_
          refine WC.block ?_
          refine WC.seq fun K26 hK26 => ?_
          obtain ⟨bb, oo, rfl, hrow⟩ := hIn (by omega)
          refine WC.region ?_
          refine WL.pure (v := .slice (some ⟨bb, oo, none⟩) n cap) 30 rfl (Nat.le_of_ble_eq_true rfl) rfl rfl (by kernel_rfl) ?_
          refine WL.pure (v := vI (k : Int)) 31 rfl (Nat.le_of_ble_eq_true rfl) rfl rfl (by kernel_rfl) ?_
          refine WL.pure (v := vP bb (oo + k * 3)) 32 rfl (Nat.le_of_ble_eq_true rfl) rfl rfl (x_idx (k) (oo + k * 3) rfl rfl rfl Try.underlying30 sz23 (by omega) (by omega) (by omega)) ?_
          refine WL.pure (v := vP bb (oo + k * 3)) 33 rfl (Nat.le_of_ble_eq_true rfl) rfl rfl (by kernel_rfl) ?_
          refine WL.pure (v := vI (c k)) 34 rfl (Nat.le_of_ble_eq_true rfl) rfl rfl (x_load rfl rfl Try.underlying3 rfl ((HP.oldRange hH22 trivial (hrow k (by omega))) 0 _ rfl)) ?_
          refine WL.pure (v := vI op) 35 rfl (Nat.le_of_ble_eq_true rfl) rfl rfl (by kernel_rfl) ?_
          by_cases hop : c k = op
          ·
            refine WL.pure (v := .bool true) 36 rfl (Nat.le_of_ble_eq_true rfl) rfl rfl (x_eql rfl rfl rfl (dT (hop))) ?_
            refine WL.nil ?_
            refine WQ.then ?_
            refine hK26 _ _ _ ?_
            refine WC.sub (l' := [(0, .slice (some ⟨bb, oo, none⟩) n cap), (1, vI op), (7, vI (m : Int)), (8, vI (k : Int)), (27, .bool true), (36, .bool true)]) ⟨rfl, rfl, rfl, rfl, rfl, rfl, trivial⟩ ?_
            refine WC.yes rfl ?_
            have hcl := cn_le c op k
            refine WC.region ?_
            refine WL.pure (v := vI (m : Int)) 37 rfl (Nat.le_of_ble_eq_true rfl) rfl rfl (by kernel_rfl) ?_
            refine WL.pure (v := vI ((m + 1 : Nat) : Int)) 38 rfl (Nat.le_of_ble_eq_true rfl) rfl rfl (x_add (Z := ((m + 1 : Nat) : Int)) rfl rfl rfl (by omega) (by omega) (by omega)) ?_
            refine WL.pure (v := vI ((m + 1 : Nat) : Int)) 7 rfl (Nat.le_of_ble_eq_true rfl) rfl rfl (by kernel_rfl) ?_
            refine WL.nil ?_
            refine WQ.inNormal ?_
            refine WQ.then ?_
            refine hK25 _ _ _ ?_
            refine WC.region ?_
            refine WL.pure (v := vI (k : Int)) 28 rfl (Nat.le_of_ble_eq_true rfl) rfl rfl (by kernel_rfl) ?_
            refine WL.pure (v := vI ((k + 1 : Nat) : Int)) 29 rfl (Nat.le_of_ble_eq_true rfl) rfl rfl (x_add (Z := ((k + 1 : Nat) : Int)) rfl rfl rfl (by omega) (by omega) (by omega)) ?_
            refine WL.pure (v := vI ((k + 1 : Nat) : Int)) 8 rfl (Nat.le_of_ble_eq_true rfl) rfl rfl (by kernel_rfl) ?_
            refine WL.nil ?_
            refine WQ.sub (l' := [(0, .slice (some ⟨bb, oo, none⟩) n cap), (1, vI op), (7, vI ((m + 1 : Nat) : Int)), (8, vI ((k + 1 : Nat) : Int))]) ⟨rfl, rfl, rfl, rfl, trivial⟩ ?_
            refine WQ.then (hK20 _ _ _ (by omega) ⟨k + 1, m + 1, rfl, rfl, by omega, by rw [cn_yes hop, hm], hH22⟩)
          ·
            refine WL.pure (v := .bool false) 36 rfl (Nat.le_of_ble_eq_true rfl) rfl rfl (x_eql rfl rfl rfl (dF (hop))) ?_
            refine WL.nil ?_
            refine WQ.then ?_
            refine hK26 _ _ _ ?_
            refine WC.sub (l' := [(0, .slice (some ⟨bb, oo, none⟩) n cap), (1, vI op), (7, vI (m : Int)), (8, vI (k : Int)), (27, .bool true), (36, .bool false)]) ⟨rfl, rfl, rfl, rfl, rfl, rfl, trivial⟩ ?_
            refine WC.no rfl ?_
            refine WC.skip ?_
            refine WQ.inNormal ?_
            refine WQ.then ?_
            refine hK25 _ _ _ ?_
            refine WC.region ?_
            refine WL.pure (v := vI (k : Int)) 28 rfl (Nat.le_of_ble_eq_true rfl) rfl rfl (by kernel_rfl) ?_
            refine WL.pure (v := vI ((k + 1 : Nat) : Int)) 29 rfl (Nat.le_of_ble_eq_true rfl) rfl rfl (x_add (Z := ((k + 1 : Nat) : Int)) rfl rfl rfl (by omega) (by omega) (by omega)) ?_
            refine WL.pure (v := vI ((k + 1 : Nat) : Int)) 8 rfl (Nat.le_of_ble_eq_true rfl) rfl rfl (by kernel_rfl) ?_
            refine WL.nil ?_
            refine WQ.sub (l' := [(0, .slice (some ⟨bb, oo, none⟩) n cap), (1, vI op), (7, vI (m : Int)), (8, vI ((k + 1 : Nat) : Int))]) ⟨rfl, rfl, rfl, rfl, trivial⟩ ?_
            refine WQ.then (hK20 _ _ _ (by omega) ⟨k + 1, m, rfl, rfl, by omega, by rw [cn_no hop, hm], hH22⟩)
        ·
          refine WL.pure (v := .bool false) 27 rfl (Nat.le_of_ble_eq_true rfl) rfl rfl (x_lss rfl rfl rfl (dF (hlt))) ?_
          refine WL.nil ?_
          refine WQ.then ?_
          refine hK24 _ _ _ ?_
          refine WC.no rfl ?_
          refine WC.exit ?_
          refine WQ.thenExit ?_
          refine WQ.thenExit ?_
          refine WQ.inExit ?_
          refine WQ.then ?_
          refine hK18 _ _ _ ?_
          refine WC.seq fun K27 hK27 => ?_
          refine WC.region ?_
          refine WL.pure (v := vI (m : Int)) 39 rfl (Nat.le_of_ble_eq_true rfl) rfl rfl (by kernel_rfl) ?_
          refine WL.pure (v := vI (m : Int)) 4 rfl (Nat.le_of_ble_eq_true rfl) rfl rfl (by kernel_rfl) ?_
          refine WL.pure (v := vI 0) 5 rfl (Nat.le_of_ble_eq_true rfl) rfl rfl (by kernel_rfl) ?_
          refine WL.nil ?_
          refine WQ.then ?_
          refine hK27 _ _ _ ?_
          refine WC.ret ?_
          refine WQ.ret2 4 5 rfl rfl rfl ?_
          have q : coF c A B n op = 0 ∧ coN c A B n op = (m : Int) := by have q := co_ok (c := c) (A := A) (B := B) (n := n) (op := op) (by omega) (by omega); rw [q.1, q.2, hm, show n = k by omega]; exact ⟨rfl, rfl⟩
          exact ⟨by rw [q.1, q.2], HP.below hH22⟩
  ·
    have hc := hc0
    refine WL.pure (v := .bool false) 12 rfl (Nat.le_of_ble_eq_true rfl) rfl rfl (x_eql rfl rfl rfl (dF (hc0))) ?_
    refine WL.pure (v := .bool false) 13 rfl (Nat.le_of_ble_eq_true rfl) rfl rfl (by kernel_rfl) ?_
    refine WL.pass 14 rfl (Nat.le_of_ble_eq_true rfl) rfl ?_
    refine WL.pass 15 rfl (Nat.le_of_ble_eq_true rfl) rfl ?_
    refine WL.pass 16 rfl (Nat.le_of_ble_eq_true rfl) rfl ?_
    refine WL.pass 17 rfl (Nat.le_of_ble_eq_true rfl) rfl ?_
    refine WL.pass 18 rfl (Nat.le_of_ble_eq_true rfl) rfl ?_
    refine WL.pass 19 rfl (Nat.le_of_ble_eq_true rfl) rfl ?_
    refine WL.pure (v := .bool false) 20 rfl (Nat.le_of_ble_eq_true rfl) rfl rfl (by kernel_rfl) ?_
    refine WL.nil ?_
    refine WQ.then ?_
    refine hK8 _ _ _ ?_
    refine WC.sub (l' := [(0, .slice p n cap), (1, vI op), (4, vI 0), (5, vI 0), (6, vI (chk c A B false n)), (20, .bool false)]) ⟨rfl, rfl, rfl, rfl, rfl, rfl, trivial⟩ ?_
    refine WC.no rfl ?_
    refine WC.skip ?_
    refine WQ.then ?_
    refine hK7 _ _ _ ?_
    refine WC.seq fun K28 hK28 => ?_
    refine WC.seq fun K29 hK29 => ?_
    refine WC.region ?_
    refine WL.pure (v := vI (chk c A B false n)) 21 rfl (Nat.le_of_ble_eq_true rfl) rfl rfl (by kernel_rfl) ?_
    refine WL.pure (v := .bool true) 22 rfl (Nat.le_of_ble_eq_true rfl) rfl rfl (x_neq rfl rfl rfl (dT (hc0))) ?_
    refine WL.nil ?_
    refine WQ.then ?_
    refine hK29 _ _ _ ?_
    refine WC.yes rfl ?_
    refine WC.seq fun K30 hK30 => ?_
    refine WC.region ?_
    refine WL.pure (v := vI (chk c A B false n)) 23 rfl (Nat.le_of_ble_eq_true rfl) rfl rfl (by kernel_rfl) ?_
    refine WL.pure (v := vI 0) 4 rfl (Nat.le_of_ble_eq_true rfl) rfl rfl (by kernel_rfl) ?_
    refine WL.pure (v := vI (chk c A B false n)) 5 rfl (Nat.le_of_ble_eq_true rfl) rfl rfl (by kernel_rfl) ?_
    refine WL.nil ?_
    refine WQ.then ?_
    refine hK30 _ _ _ ?_
    refine WC.ret ?_
    refine WQ.thenRet ?_
    refine WQ.ret2 4 5 rfl rfl rfl ?_
    have q : coF c A B n op = chk c A B false n ∧ coN c A B n op = 0 := co_bad hc
    exact ⟨by rw [q.1, q.2], HP.below hH6⟩
end Ec
end Go.Proofs.Yteeljnlepbnhkaa
