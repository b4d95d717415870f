/- Rows of instructions that the call made. -/
import Derived.Test.YteeljnlepbnhkaaDoorEV
import Derived.Test.YteeljnlepbnhkaaDoorFV
set_option linter.unusedVariables false
set_option linter.unusedSimpArgs false
namespace Go.Proofs.YteeljnlepbnhkaaDoor
open Go.RowKit Fw
namespace Ec
def fld (c A B : Nat → Int) (q : Nat) : Int := if q % 3 = 0 then c (q / 3) else if q % 3 = 1 then A (q / 3) else B (q / 3)
def insL (c A B : Nat → Int) (n : Nat) : List Value := (List.range (n * 3)).map fun q => .int .i64 (fld c A B q)
theorem insL_len (c A B : Nat → Int) (n : Nat) : (insL c A B n).length = n * 3 := by simp [insL]
theorem insL_get {c A B : Nat → Int} {n q : Nat} (h : q < n * 3) : (insL c A B n)[q]? = some (.int .i64 (fld c A B q)) := by simp [insL, h]
theorem insL_one (c A B : Nat → Int) (n : Nat) : ∀ u ∈ insL c A B n, u.oneCell' = true := fun u hu => by
  obtain ⟨q, _, rfl⟩ := List.mem_map.1 hu; rfl
theorem insL_congr {c A B c' A' B' : Nat → Int} {n : Nat} (h : ∀ i, i < n → c i = c' i ∧ A i = A' i ∧ B i = B' i) : insL c A B n = insL c' A' B' n := by
  unfold insL
  refine List.map_congr_left fun q hq => ?_
  have hq' := List.mem_range.1 hq
  obtain ⟨h1, h2, h3⟩ := h (q / 3) (by omega)
  unfold fld; rw [h1, h2, h3]
theorem ins3 {c A B : Nat → Int} {n i : Nat} (hi : i < n) : (insL c A B n)[i * 3]? = some (vI (c i)) ∧ (insL c A B n)[i * 3 + 1]? = some (vI (A i)) ∧ (insL c A B n)[i * 3 + 2]? = some (vI (B i)) := by
  refine ⟨?_, ?_, ?_⟩ <;> rw [insL_get (by omega)] <;> unfold fld
  · rw [if_pos (by omega), show i * 3 / 3 = i by omega]
  · rw [if_neg (by omega), if_pos (by omega), show (i * 3 + 1) / 3 = i by omega]
  · rw [if_neg (by omega), if_neg (by omega), show (i * 3 + 2) / 3 = i by omega]
/-- one more at the end -/
theorem insL_push (c A B : Nat → Int) (n : Nat) (a1 a2 a3 : Int) (c' A' B' : Nat → Int) (h : ∀ i, i < n → c' i = c i ∧ A' i = A i ∧ B' i = B i) (hn : c' n = a1 ∧ A' n = a2 ∧ B' n = a3) :
    insL c A B n ++ [vI a1, vI a2, vI a3] = insL c' A' B' (n + 1) := by
  refine List.ext_getElem? fun q => ?_
  by_cases hq : q < n * 3
  · rw [List.getElem?_append_left (by rw [insL_len]; exact hq), insL_get hq, insL_get (by omega)]
    obtain ⟨h1, h2, h3⟩ := h (q / 3) (by omega)
    unfold fld; rw [h1, h2, h3]
  · rw [List.getElem?_append_right (by rw [insL_len]; omega), insL_len]
    obtain ⟨q1, q2, q3⟩ := ins3 (c := c') (A := A') (B := B') (n := n + 1) (i := n) (by omega)
    by_cases e0 : q = n * 3
    · subst e0; rw [q1, hn.1]; simp
    · by_cases e1 : q = n * 3 + 1
      · subst e1; rw [q2, hn.2.1]; simp
      · by_cases e2 : q = n * 3 + 2
        · subst e2; rw [q3, hn.2.2]; simp
        · rw [List.getElem?_eq_none (by simp; omega), List.getElem?_eq_none (by rw [insL_len]; omega)]
/-- one ahead of all -/
theorem insL_cons (c A B : Nat → Int) (n : Nat) (a1 a2 a3 : Int) (c' A' B' : Nat → Int) (h : ∀ i, i < n → c' (i + 1) = c i ∧ A' (i + 1) = A i ∧ B' (i + 1) = B i) (hn : c' 0 = a1 ∧ A' 0 = a2 ∧ B' 0 = a3) :
    [vI a1, vI a2, vI a3] ++ insL c A B n = insL c' A' B' (n + 1) := by
  refine List.ext_getElem? fun q => ?_
  obtain ⟨q1, q2, q3⟩ := ins3 (c := c') (A := A') (B := B') (n := n + 1) (i := 0) (by omega)
  match q with
  | 0 => rw [show (0 : Nat) = 0 * 3 from rfl, q1, hn.1]; rfl
  | 1 => rw [show (1 : Nat) = 0 * 3 + 1 from rfl, q2, hn.2.1]; rfl
  | 2 => rw [show (2 : Nat) = 0 * 3 + 2 from rfl, q3, hn.2.2]; rfl
  | q + 3 =>
    rw [List.getElem?_append_right (by simp)]
    simp only [List.length_cons, List.length_nil, show q + 3 - (0 + 1 + 1 + 1) = q by omega]
    by_cases hq : q < n * 3
    · rw [insL_get hq, insL_get (by omega)]
      obtain ⟨h1, h2, h3⟩ := h (q / 3) (by omega)
      unfold fld
      rw [show (q + 3) % 3 = q % 3 by omega, show (q + 3) / 3 = q / 3 + 1 by omega, h1, h2, h3]
    · rw [List.getElem?_eq_none (by rw [insL_len]; omega), List.getElem?_eq_none (by rw [insL_len]; omega)]
theorem hadd (bb o k : Nat) : (⟨bb, o, none⟩ : Addr).add k = ⟨bb, o + k, none⟩ := by unfold Addr.add; split <;> simp_all
/-- the cells of what came in -/
theorem InC.cells {w : World} {bb oo n : Nat} {c A B : Nat → Int} (hr : ∀ i, i < n → w.rangeAt bb (oo + i * 3) [.int .i64 (c i), .int .i64 (A i), .int .i64 (B i)]) : ∀ q u, (insL c A B n)[q]? = some u → w.cell? ((⟨bb, oo, none⟩ : Addr).add q) = some u := fun q u hu => by
  have hq : q < n * 3 := by have := (List.getElem?_eq_some_iff.1 hu).1; rwa [insL_len] at this
  rw [insL_get hq, Option.some.injEq] at hu
  rw [hadd]
  have h0 := hr (q / 3) (by omega)
  by_cases e0 : q % 3 = 0
  · have := h0 0 _ rfl
    rw [show oo + q / 3 * 3 + 0 = oo + q by omega] at this
    rw [this, ← hu]; unfold fld; rw [if_pos e0]
  · by_cases e1 : q % 3 = 1
    · have := h0 1 _ rfl
      rw [show oo + q / 3 * 3 + 1 = oo + q by omega] at this
      rw [this, ← hu]; unfold fld; rw [if_neg e0, if_pos e1]
    · have := h0 2 _ rfl
      rw [show oo + q / 3 * 3 + 2 = oo + q by omega] at this
      rw [this, ← hu]; unfold fld; rw [if_neg e0, if_neg e1]
theorem RowIn.below {w w' : World} {p : Option Addr} {n cap : Nat} {c A B : Nat → Int} (h : RowIn w p n cap c A B) (hb : Below w.heap.size w w') : RowIn w' p n cap c A B := ⟨h.inC.below hb, h.nil, h.hn, h.hc⟩
theorem RowIn.src {w : World} {p : Option Addr} {n cap : Nat} {c A B : Nat → Int} (h : RowIn w p n cap c A B) : (∃ a, p = some a ∧ ∀ q u, (insL c A B n)[q]? = some u → w.cell? (a.add q) = some u) ∨ (p = none ∧ n = 0 ∧ cap = 0) := by
  cases hp : p with
  | none => exact .inr ⟨rfl, h.nil hp⟩
  | some a =>
    refine .inl ⟨a, rfl, ?_⟩
    by_cases h0 : 0 < n
    · obtain ⟨bb, oo, he, hr⟩ := h.inC h0
      rw [hp] at he; cases he
      exact InC.cells hr
    · intro q u hu
      have := (List.getElem?_eq_some_iff.1 hu).1
      rw [insL_len] at this; omega
/-- a row of one's own, of instructions -/
abbrev ownI (pv : Option Addr) (n cp : Nat) (c A B : Nat → Int) : Ent := .own (.slice pv n cp) n (insL c A B n) 33 3
theorem own_rowIn {w : World} {pv : Option Addr} {n cp : Nat} {c A B : Nat → Int} (h : Ent.holds w (ownI pv n cp c A B)) : RowIn w pv n cp c A B := by
  have h2 : w.ownsRow 0 33 3 (.slice pv n cp) n (insL c A B n) := h
  have hc := @World.ownsRow.cells _ _ _ _ _ _ _ h2
  rcases h2.2 with ⟨h0, h1⟩ | ⟨g, cap, cur, hv, hb, hg, hnc, hm, hs, hx⟩
  · cases h0; exact ⟨fun q => absurd q (by omega), fun _ => ⟨rfl, rfl⟩, Nat.le_refl _, by unfold maxLen; omega⟩
  · cases hv
    refine ⟨fun _ => ⟨g, 0, rfl, fun i hi j v hv => ?_⟩, fun q => (by cases q), hnc, hm⟩
    obtain ⟨q1, q2, q3⟩ := ins3 (c := c) (A := A) (B := B) hi
    have hc := hc (g := g) rfl
    simp only [hadd, Nat.zero_add] at hc ⊢
    match j, hv with
    | 0, hv => simp at hv; subst hv; exact hc _ _ q1
    | 1, hv => simp at hv; subst hv; exact hc _ _ q2
    | 2, hv => simp at hv; subst hv; exact hc _ _ q3
    | j + 3, hv => simp at hv
theorem own_slice {w : World} {v : Value} {n : Nat} {c A B : Nat → Int} (h : Ent.holds w (.own v n (insL c A B n) 33 3)) : ∃ pv cp, v = .slice pv n cp := by
  have h2 : w.ownsRow 0 33 3 v n (insL c A B n) := h
  rcases h2.2 with ⟨h0, h1⟩ | ⟨g, cap, cur, hv, _⟩
  · exact ⟨none, 0, by rw [h0, h1]⟩
  · exact ⟨_, cap, hv⟩
theorem infoR : (Tryd.prog.info? 33).map (fun i => (i.zero, i.size, i.bytes)) = some (some (.agg #[.int .i64 0, .int .i64 0, .int .i64 0]), 3, 24) := by kernel_rfl
theorem infoR' : ∃ i, Tryd.prog.info? 33 = some i ∧ i.zero = some (.agg #[.int .i64 0, .int .i64 0, .int .i64 0]) ∧ i.size = 3 ∧ i.bytes = 24 := by
  obtain ⟨i, hi, h⟩ := Option.map_eq_some_iff.1 infoR
  simp only [Prod.mk.injEq] at h
  exact ⟨i, hi, h.1, h.2.1, h.2.2⟩
theorem eqI (x y z : Int) (w : World) : (Op.equalIn 10000 33 (.agg #[.int .i64 x, .int .i64 y, .int .i64 z]) (.agg #[.int .i64 x, .int .i64 y, .int .i64 z])).run Tryd.prog w = .ok true w := by
  have hi1 : ∀ (a : Int) (w : World), (Op.equalIn 9999 3 (.int .i64 a) (.int .i64 a)).run Tryd.prog w = .ok true w := fun a w => by
    rw [show (9999 : Nat) = 9998 + 1 from rfl, run_equalIn_int w 9998 3 .i64 .i64 a a Tryd.underlying3]; simp
  rw [show (10000 : Nat) = 9999 + 1 from rfl, run_equalIn_agg w 9999 _ _ _ (by kernel_rfl) (by kernel_rfl)]
  simp [Program.fieldsOf, Tryd.underlying33, Op.eqFields, hi1, go_sem]
def OwnR (w : World) (c A B : Nat → Int) (n : Nat) (e : Ending) (w' : World) : Prop := ∃ pv cp, e = .returned (.slice pv n cp) ∧ HP Tr w w' [ownI pv n cp c A B]
set_option maxRecDepth 20000 in
set_option maxHeartbeats 4000000 in
theorem Same_any (p p2 : Option Addr) (n cap cap2 : Nat) (c A B : Nat → Int) (w : World) (h1 : InC w p n c A B) (h2 : InC w p2 n c A B) (hn : n ≤ 400) :
    Calls Tryd.prog 9 #[.slice p n cap, .slice p2 n cap2] w fun e w' => e = .returned (.bool true) ∧ Below w.heap.size w w' := by
  refine calls_of Tryd.func9 rfl (m := 26) rfl [(0, .slice p n cap), (1, .slice p2 n cap2)] (Fr_enter [.slice p n cap, .slice p2 n cap2] 26 (Nat.le_of_ble_eq_true rfl)) ?_
  have hH1 : HP Tr w w [] := HP.refl w
  refine WC.seq fun K2 hK2 => ?_
  refine WC.region ?_
  refine WL.pure (v := .bool false) 4 rfl (Nat.le_of_ble_eq_true rfl) rfl rfl (by kernel_rfl) ?_
  refine WL.nil ?_
  refine WQ.then ?_
  refine hK2 _ _ _ ?_
  refine WC.seq fun K3 hK3 => ?_
  refine WC.seq fun K4 hK4 => ?_
  refine WC.region ?_
  refine WL.pure (v := .slice p n cap) 6 rfl (Nat.le_of_ble_eq_true rfl) rfl rfl (by kernel_rfl) ?_
  refine WL.pure (v := vI (n : Int)) 7 rfl (Nat.le_of_ble_eq_true rfl) rfl rfl (by kernel_rfl) ?_
  refine WL.pure (v := .slice p2 n cap2) 8 rfl (Nat.le_of_ble_eq_true rfl) rfl rfl (by kernel_rfl) ?_
  refine WL.pure (v := vI (n : Int)) 9 rfl (Nat.le_of_ble_eq_true rfl) rfl rfl (by kernel_rfl) ?_
  refine WL.pure (v := .bool false) 10 rfl (Nat.le_of_ble_eq_true rfl) rfl rfl (x_neq rfl rfl rfl (dF (fun h => h rfl))) ?_
  refine WL.nil ?_
  refine WQ.then ?_
  refine hK4 _ _ _ ?_
  refine WC.no rfl ?_
  refine WC.skip ?_
  refine WQ.then ?_
  refine hK3 _ _ _ ?_
  refine WC.seq fun K5 hK5 => ?_
  refine WC.seq fun K6 hK6 => ?_
  refine WC.region ?_
  refine WL.pure (v := vI 0) 5 rfl (Nat.le_of_ble_eq_true rfl) rfl rfl (by kernel_rfl) ?_
  refine WL.nil ?_
  refine WQ.then ?_
  refine hK6 _ _ _ ?_
  refine WC.block ?_
  refine WC.loop (fun kk0 ll0 ww0 => ∃ (k : Nat), ll0 = [(0, .slice p n cap), (1, .slice p2 n cap2), (5, vI (k : Int))] ∧ kk0 = n - k ∧ (k ≤ n) ∧ HP Tr w ww0 []) (n) [(0, .slice p n cap), (1, .slice p2 n cap2), (5, vI 0)] ⟨rfl, rfl, rfl, trivial⟩ ⟨0, rfl, rfl, Nat.zero_le n, hH1⟩ ?_
  rintro kk l w8 ⟨k, rfl, hkk, hk, hH9⟩ K7 hK7
  refine WC.seq fun K10 hK10 => ?_
  refine WC.seq fun K11 hK11 => ?_
  refine WC.region ?_
  refine WL.pure (v := vI (k : Int)) 11 rfl (Nat.le_of_ble_eq_true rfl) rfl rfl (by kernel_rfl) ?_
  refine WL.pure (v := .slice p n cap) 12 rfl (Nat.le_of_ble_eq_true rfl) rfl rfl (by kernel_rfl) ?_
  refine WL.pure (v := vI (n : Int)) 13 rfl (Nat.le_of_ble_eq_true rfl) rfl rfl (by kernel_rfl) ?_
  by_cases hlt : (k : Int) < (n : Int)
  ·
    refine WL.pure (v := .bool true) 14 rfl (Nat.le_of_ble_eq_true rfl) rfl rfl (x_lss rfl rfl rfl (dT (hlt))) ?_
    refine WL.nil ?_
    refine WQ.then ?_
    refine hK11 _ _ _ ?_
    refine WC.yes rfl ?_
    refine WC.skip ?_
    refine WQ.then ?_
    refine hK10 _ _ _ ?_
    refine WC.seq fun K12 hK12 => ?_
    refine WC.block ?_
    refine WC.seq fun K13 hK13 => ?_
    obtain ⟨bb, oo, rfl, hrow⟩ := h1 (by omega)
    obtain ⟨b2, o2, rfl, hrow2⟩ := h2 (by omega)
    refine WC.still (by kernel_rfl) (by kernel_rfl) ?_
    have hH14 : HP Tr w _ [] := HP.drew hH9
    refine WS.val (v := .slice (some ⟨bb, oo, none⟩) n cap) 17 rfl (Nat.le_of_ble_eq_true rfl) rfl rfl (by kernel_rfl) ?_
    refine WS.val (v := vI (k : Int)) 18 rfl (Nat.le_of_ble_eq_true rfl) rfl rfl (by kernel_rfl) ?_
    refine WS.val (v := vP bb (oo + k * 3)) 19 rfl (Nat.le_of_ble_eq_true rfl) rfl rfl (x_idx (k) (oo + k * 3) rfl rfl rfl Tryd.underlying22 sz33 (by omega) (by omega) (by omega)) ?_
    refine WS.val (v := .agg #[vI (c k), vI (A k), vI (B k)]) 20 rfl (Nat.le_of_ble_eq_true rfl) rfl rfl (x_loadS (cs := [vI (c k), vI (A k), vI (B k)]) rfl rfl Tryd.underlying33 rfl sz33 (HP.oldRange hH14 trivial (hrow k (by omega)))) ?_
    refine WS.val (v := .slice (some ⟨b2, o2, none⟩) n cap2) 21 rfl (Nat.le_of_ble_eq_true rfl) rfl rfl (by kernel_rfl) ?_
    refine WS.val (v := vI (k : Int)) 22 rfl (Nat.le_of_ble_eq_true rfl) rfl rfl (by kernel_rfl) ?_
    refine WS.val (v := vP b2 (o2 + k * 3)) 23 rfl (Nat.le_of_ble_eq_true rfl) rfl rfl (x_idx (k) (o2 + k * 3) rfl rfl rfl Tryd.underlying22 sz33 (by omega) (by omega) (by omega)) ?_
    refine WS.val (v := .agg #[vI (c k), vI (A k), vI (B k)]) 24 rfl (Nat.le_of_ble_eq_true rfl) rfl rfl (x_loadS (cs := [vI (c k), vI (A k), vI (B k)]) rfl rfl Tryd.underlying33 rfl sz33 (HP.oldRange hH14 trivial (hrow2 k (by omega)))) ?_
    refine WS.val (v := .bool false) 25 rfl (Nat.le_of_ble_eq_true rfl) rfl rfl (x_neqA rfl rfl rfl (by kernel_rfl) (eqI _ _ _ _) rfl) ?_
    refine WS.nilQ ?_
    refine WQ.then ?_
    refine hK13 _ _ _ ?_
    refine WC.sub (l' := [(0, .slice (some ⟨bb, oo, none⟩) n cap), (1, .slice (some ⟨b2, o2, none⟩) n cap2), (5, vI (k : Int)), (14, .bool true), (25, .bool false)]) ⟨rfl, rfl, rfl, rfl, rfl, trivial⟩ ?_
    refine WC.no rfl ?_
    refine WC.skip ?_
    refine WQ.inNormal ?_
    refine WQ.then ?_
    refine hK12 _ _ _ ?_
    refine WC.region ?_
    refine WL.pure (v := vI (k : Int)) 15 rfl (Nat.le_of_ble_eq_true rfl) rfl rfl (by kernel_rfl) ?_
    refine WL.pure (v := vI ((k + 1 : Nat) : Int)) 16 rfl (Nat.le_of_ble_eq_true rfl) rfl rfl (x_add (Z := ((k + 1 : Nat) : Int)) rfl rfl rfl (by omega) (by omega) (by omega)) ?_
    refine WL.pure (v := vI ((k + 1 : Nat) : Int)) 5 rfl (Nat.le_of_ble_eq_true rfl) rfl rfl (by kernel_rfl) ?_
    refine WL.nil ?_
    refine WQ.sub (l' := [(0, .slice (some ⟨bb, oo, none⟩) n cap), (1, .slice (some ⟨b2, o2, none⟩) n cap2), (5, vI ((k + 1 : Nat) : Int))]) ⟨rfl, rfl, rfl, trivial⟩ ?_
    refine WQ.then (hK7 _ _ _ (by omega) ⟨k + 1, rfl, rfl, by omega, hH14⟩)
  ·
    refine WL.pure (v := .bool false) 14 rfl (Nat.le_of_ble_eq_true rfl) rfl rfl (x_lss rfl rfl rfl (dF (hlt))) ?_
    refine WL.nil ?_
    refine WQ.then ?_
    refine hK11 _ _ _ ?_
    refine WC.no rfl ?_
    refine WC.exit ?_
    refine WQ.thenExit ?_
    refine WQ.thenExit ?_
    refine WQ.inExit ?_
    refine WQ.then ?_
    refine hK5 _ _ _ ?_
    refine WC.seq fun K15 hK15 => ?_
    refine WC.region ?_
    refine WL.pure (v := .bool true) 4 rfl (Nat.le_of_ble_eq_true rfl) rfl rfl (by kernel_rfl) ?_
    refine WL.nil ?_
    refine WQ.then ?_
    refine hK15 _ _ _ ?_
    refine WC.ret ?_
    refine WQ.ret1 4 rfl rfl ?_
    exact ⟨rfl, HP.below hH9⟩
end Ec
end Go.Proofs.YteeljnlepbnhkaaDoor
