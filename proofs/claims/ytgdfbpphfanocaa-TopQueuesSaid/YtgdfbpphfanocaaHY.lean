/- Play. -/
import Derived.Test.YtgdfbpphfanocaaHX
import Derived.Test.YtgdfbpphfanocaaFI
set_option linter.unusedVariables false
set_option linter.unusedSimpArgs false
namespace Go.Proofs.Ytgdfbpphfanocaa
open Go.RowKit Fw
namespace Qp
open Lc (wd isWord_wd)
open Lb (row infoI row_len row_cases row_src row_cap own_row ad_add)
open Qu
def zer (l : List Int) : Nat → Nat
  | 0 => 0
  | i + 1 => zer l i + (if l.getD i 0 = 0 then 1 else 0)
theorem zer_s {l : List Int} {i : Nat} (h : l.getD i 0 = 0) : zer l (i + 1) = zer l i + 1 := by simp only [zer]; rw [if_pos h]
theorem zer_n {l : List Int} {i : Nat} (h : ¬ l.getD i 0 = 0) : zer l (i + 1) = zer l i := by simp only [zer]; rw [if_neg h, Nat.add_zero]
theorem zer_le (l : List Int) : ∀ i, zer l i ≤ i
  | 0 => Nat.le_refl _
  | i + 1 => by simp only [zer]; have := zer_le l i; split <;> omega
def rs (g o cap : Nat) : Option Addr := some (if cap = 1 then ⟨g, o, none⟩ else ⟨g, o + 1, none⟩)
theorem x_reslice {P : Program} {ρ : Operand → Value} {o : Oper} {w : World} {t e b off n cap m : Nat} {x lo : Operand} (ho : o.op = .slice t x (some lo) none none) (hx : ρ x = .slice (some ⟨b, off, none⟩) n cap) (hy : ρ lo = .int .i64 1) (hu : P.underlying t = some (.slice e)) (hle : 1 ≤ n) (hnc : n ≤ cap) (hs : (P.info? e).map (·.size) = some 1) (hm : n - 1 = m) :
    (execOp ρ o).run P w = .ok (.value (.slice (rs b off cap) m (cap - 1))) w := by
  unfold execOp; rw [ho]
  obtain ⟨inf, hi, h1⟩ := Option.map_eq_some_iff.1 hs
  have hz : (sizeOf e).run P w = .ok 1 w := by simp [sizeOf, typeInfo, hi, h1]
  have hadd : (⟨b, off, none⟩ : Addr).add 1 = ⟨b, off + 1, none⟩ := by unfold Addr.add; split <;> simp_all
  unfold rs
  by_cases hc : cap = 1
  · subst hc
    have : n = 1 := by omega
    subst this
    simp [hx, hy, Instr.sliceAt, Instr.slice, run_underlying hu, Instr.sliceBounds, Instr.sliceBound, asIntOf, hz, ← hm]
  · have h0 : (0 : Int) ≤ 1 := by omega
    simp [hx, hy, Instr.sliceAt, Instr.slice, run_underlying hu, Instr.sliceBounds, Instr.sliceBound, asIntOf, hle, hz, hadd, hnc, hm, hc]
    intro hq; omega
theorem InI.drop1 {w : World} {g o icap : Nat} {R : List Int} (h : ∀ i, i < R.length → w.rangeAt g (o + i) [vI (R.getD i 0)]) (hc : R.length ≤ icap) : InI w (rs g o icap) (R.drop 1) := fun h0 => by
  have h1 : 1 < R.length := by simp at h0; omega
  refine ⟨g, o + 1, ?_, fun i hi => ?_⟩
  · unfold rs; rw [if_neg (by omega)]
  · have hi' : i + 1 < R.length := by simp at hi; omega
    have q := h (i + 1) hi'
    rw [show (R.drop 1).getD i 0 = R.getD (i + 1) 0 by simp [List.getD_eq_getElem?_getD, Nat.add_comm]]
    rw [show o + 1 + i = o + (i + 1) by omega]
    exact q
abbrev bL (B : List Bool) : List Value := B.map Value.bool
abbrev rowB (pv : Option Addr) (n cp : Nat) (B : List Bool) : Ent := .own (.slice pv n cp) n (bL B) 4 1
theorem own_rowG {w : World} {v : Value} {n e s : Nat} {ys : List Value} (h : Ent.holds w (.own v n ys e s)) : ∃ pv cp, v = .slice pv n cp := by
  have h2 : w.ownsRow 0 e s v n ys := h
  rcases h2.2 with ⟨h0, h1⟩ | ⟨g, cap, cur, hv, _⟩
  · exact ⟨none, 0, by rw [h0, h1]⟩
  · exact ⟨_, cap, hv⟩
theorem infoB : ∃ i, Try.prog.info? 4 = some i ∧ i.zero = some (.bool false) ∧ i.size = 1 ∧ i.bytes = 1 := by
  obtain ⟨i, hi, h⟩ := Option.map_eq_some_iff.1 (show (Try.prog.info? 4).map (fun i => (i.zero, i.size, i.bytes)) = some (some (.bool false), 1, 1) by kernel_rfl)
  simp only [Prod.mk.injEq] at h
  exact ⟨i, hi, h.1, h.2.1, h.2.2⟩
/-- what a play answers -/
def PlayR (M : Int) (P : List Int) (K : Int) (sc : List Int) (w : World) (e : Ending) (w' : World) : Prop :=
  (∃ er : Int, er ≠ 0 ∧ e = .returned (.tuple #[.slice none 0 0, .slice none 0 0, vI er]) ∧ Below w.heap.size w w') ∨
  (∃ (B : List Bool) (T : List Int) (pv1 : Option Addr) (cp1 : Nat) (pv2 : Option Addr) (cp2 m : Nat), M = (m : Int) ∧ m ≤ 8 ∧ K ≤ 40 ∧ (∀ x ∈ P, wd x = true) ∧ P.length ≤ 40 ∧ Good m P K (zer sc sc.length) B T ∧
    e = .returned (.tuple #[.slice pv1 B.length cp1, .slice pv2 T.length cp2, vI 0]) ∧ HP Tr w w' [rowB pv1 B.length cp1 B, row pv2 T.length cp2 T])
theorem getD_drop0 {P : List Int} {k : Nat} : (P.drop k).getD 0 0 = P.getD k 0 := by simp [List.getD_eq_getElem?_getD]
theorem wd_get {P : List Int} (h : ∀ x ∈ P, wd x = true) {k : Nat} (hk : k < P.length) : wd (P.getD k 0) = true := by
  refine h _ ?_
  rw [List.getD_eq_getElem?_getD, List.getElem?_eq_getElem hk]
  exact List.getElem_mem hk
theorem drop_one {P : List Int} {k : Nat} : (P.drop k).drop 1 = P.drop (k + 1) := by rw [List.drop_drop]
def sd (x : Int) : Bool := !(decide (x = 0)) && !(decide (x = 1))
set_option maxRecDepth 20000 in
set_option maxHeartbeats 4000000 in
theorem side_any (x : Int) (w : World) :
    Calls Try.prog 73 #[vI x] w fun e w' => e = .returned (.bool (sd x)) ∧ w = w' := by
  refine calls_of Try.func73 rfl (m := 9) rfl [(0, vI x)] (Fr_enter [vI x] 9 (Nat.le_of_ble_eq_true rfl)) ?_
  have hH1 : HP Tr w w [] := HP.refl w
  refine WC.seq fun K2 hK2 => ?_
  refine WC.region ?_
  refine WL.pure (v := .bool false) 2 rfl (Nat.le_of_ble_eq_true rfl) rfl rfl (by kernel_rfl) ?_
  refine WL.nil ?_
  refine WQ.then ?_
  refine hK2 _ _ _ ?_
  refine WC.seq fun K3 hK3 => ?_
  refine WC.region ?_
  refine WL.pure (v := vI x) 3 rfl (Nat.le_of_ble_eq_true rfl) rfl rfl (by kernel_rfl) ?_
  by_cases h1 : x ≠ 0
  ·
    refine WL.pure (v := .bool true) 4 rfl (Nat.le_of_ble_eq_true rfl) rfl rfl (x_neq rfl rfl rfl (dT (h1))) ?_
    refine WL.pure (v := .bool true) 5 rfl (Nat.le_of_ble_eq_true rfl) rfl rfl (by kernel_rfl) ?_
    refine WL.pure (v := vI x) 6 rfl (Nat.le_of_ble_eq_true rfl) rfl rfl (by kernel_rfl) ?_
    by_cases h2 : x ≠ 1
    ·
      refine WL.pure (v := .bool true) 7 rfl (Nat.le_of_ble_eq_true rfl) rfl rfl (x_neq rfl rfl rfl (dT (h2))) ?_
      refine WL.pure (v := .bool true) 8 rfl (Nat.le_of_ble_eq_true rfl) rfl rfl (by kernel_rfl) ?_
      refine WL.pure (v := .bool true) 2 rfl (Nat.le_of_ble_eq_true rfl) rfl rfl (by kernel_rfl) ?_
      refine WL.nil ?_
      refine WQ.then ?_
      refine hK3 _ _ _ ?_
      refine WC.sub (l' := [(0, vI x), (2, .bool true)]) ⟨rfl, rfl, trivial⟩ ?_
      refine WC.ret ?_
      refine WQ.ret1 2 rfl rfl ?_
      exact ⟨by unfold sd; simp_all, rfl⟩
    ·
      refine WL.pure (v := .bool false) 7 rfl (Nat.le_of_ble_eq_true rfl) rfl rfl (x_neq rfl rfl rfl (dF (h2))) ?_
      refine WL.pure (v := .bool false) 8 rfl (Nat.le_of_ble_eq_true rfl) rfl rfl (by kernel_rfl) ?_
      refine WL.pure (v := .bool false) 2 rfl (Nat.le_of_ble_eq_true rfl) rfl rfl (by kernel_rfl) ?_
      refine WL.nil ?_
      refine WQ.then ?_
      refine hK3 _ _ _ ?_
      refine WC.sub (l' := [(0, vI x), (2, .bool false)]) ⟨rfl, rfl, trivial⟩ ?_
      refine WC.ret ?_
      refine WQ.ret1 2 rfl rfl ?_
      exact ⟨by unfold sd; simp_all, rfl⟩
  ·
    refine WL.pure (v := .bool false) 4 rfl (Nat.le_of_ble_eq_true rfl) rfl rfl (x_neq rfl rfl rfl (dF (h1))) ?_
    refine WL.pure (v := .bool false) 5 rfl (Nat.le_of_ble_eq_true rfl) rfl rfl (by kernel_rfl) ?_
    refine WL.pass 6 rfl (Nat.le_of_ble_eq_true rfl) rfl ?_
    refine WL.pass 7 rfl (Nat.le_of_ble_eq_true rfl) rfl ?_
    refine WL.pure (v := .bool false) 8 rfl (Nat.le_of_ble_eq_true rfl) rfl rfl (by kernel_rfl) ?_
    refine WL.pure (v := .bool false) 2 rfl (Nat.le_of_ble_eq_true rfl) rfl rfl (by kernel_rfl) ?_
    refine WL.nil ?_
    refine WQ.then ?_
    refine hK3 _ _ _ ?_
    refine WC.sub (l' := [(0, vI x), (2, .bool false)]) ⟨rfl, rfl, trivial⟩ ?_
    refine WC.ret ?_
    refine WQ.ret1 2 rfl rfl ?_
    exact ⟨by unfold sd; simp_all, rfl⟩
set_option maxRecDepth 20000 in
set_option maxHeartbeats 4000000 in
theorem nwd_any (x : Int) (w : World) :
    Calls Try.prog 75 #[vI x] w fun e w' => e = .returned (.bool (!wd x)) ∧ w = w' := by
  refine calls_of Try.func75 rfl (m := 6) rfl [(0, vI x)] (Fr_enter [vI x] 6 (Nat.le_of_ble_eq_true rfl)) ?_
  have hH1 : HP Tr w w [] := HP.refl w
  refine WC.seq fun K2 hK2 => ?_
  refine WC.region ?_
  refine WL.pure (v := .bool false) 2 rfl (Nat.le_of_ble_eq_true rfl) rfl rfl (by kernel_rfl) ?_
  refine WL.nil ?_
  refine WQ.then ?_
  refine hK2 _ _ _ ?_
  refine WC.seq fun K3 hK3 => ?_
  refine WC.region ?_
  refine WL.pure (v := vI x) 3 rfl (Nat.le_of_ble_eq_true rfl) rfl rfl (by kernel_rfl) ?_
  refine WL.call (f := 76) (args := #[vI x]) 4 rfl (Nat.le_of_ble_eq_true rfl) rfl rfl (by kernel_rfl) ?_
  cases hx : wd x
  ·
    refine (qword_no x _ hx).mono ?_
    rintro e w2 ⟨rfl, rfl⟩
    refine ⟨_, rfl, ?_⟩
    refine WL.pure (v := .bool true) 5 rfl (Nat.le_of_ble_eq_true rfl) rfl rfl (by kernel_rfl) ?_
    refine WL.pure (v := .bool true) 2 rfl (Nat.le_of_ble_eq_true rfl) rfl rfl (by kernel_rfl) ?_
    refine WL.nil ?_
    refine WQ.then ?_
    refine hK3 _ _ _ ?_
    refine WC.ret ?_
    refine WQ.ret1 2 rfl rfl ?_
    exact ⟨by rw [hx]; rfl, rfl⟩
  ·
    refine (qword_any x _ hx).mono ?_
    rintro e w2 ⟨rfl, rfl⟩
    refine ⟨_, rfl, ?_⟩
    refine WL.pure (v := .bool false) 5 rfl (Nat.le_of_ble_eq_true rfl) rfl rfl (by kernel_rfl) ?_
    refine WL.pure (v := .bool false) 2 rfl (Nat.le_of_ble_eq_true rfl) rfl rfl (by kernel_rfl) ?_
    refine WL.nil ?_
    refine WQ.then ?_
    refine hK3 _ _ _ ?_
    refine WC.ret ?_
    refine WQ.ret1 2 rfl rfl ?_
    exact ⟨by rw [hx]; rfl, rfl⟩
set_option maxRecDepth 20000 in
set_option maxHeartbeats 4000000 in
theorem idx_side (p : Option Addr) (cap : Nat) (xs : List Int) (w : World) (hIn : InI w p xs) (hn : xs.length ≤ 1000) :
    Calls Try.prog 95 #[.slice p xs.length cap, .func (.func 73) #[] #[]] w fun e w' => ∃ r : Int, e = .returned (vI r) ∧ (r < 0 ↔ ∀ i, i < xs.length → (sd (xs.getD i 0)) = false) ∧ Below w.heap.size w w' := by
  refine calls_of Try.func95 rfl (m := 19) rfl [(0, .slice p xs.length cap), (1, .func (.func 73) #[] #[])] (Fr_enter [.slice p xs.length cap, .func (.func 73) #[] #[]] 19 (Nat.le_of_ble_eq_true rfl)) ?_
  have hH1 : HP Tr w w [] := HP.refl w
  refine WC.seq fun K2 hK2 => ?_
  refine WC.region ?_
  refine WL.pure (v := vI 0) 4 rfl (Nat.le_of_ble_eq_true rfl) rfl rfl (by kernel_rfl) ?_
  refine WL.nil ?_
  refine WQ.then ?_
  refine hK2 _ _ _ ?_
  refine WC.seq fun K3 hK3 => ?_
  refine WC.seq fun K4 hK4 => ?_
  refine WC.region ?_
  refine WL.pure (v := .slice p xs.length cap) 6 rfl (Nat.le_of_ble_eq_true rfl) rfl rfl (by kernel_rfl) ?_
  refine WL.pure (v := vI (xs.length : Int)) 7 rfl (Nat.le_of_ble_eq_true rfl) rfl rfl (by kernel_rfl) ?_
  refine WL.pure (v := vI 0) 8 rfl (Nat.le_of_ble_eq_true rfl) rfl rfl (by kernel_rfl) ?_
  refine WL.nil ?_
  refine WQ.then ?_
  refine hK4 _ _ _ ?_
  refine WC.block ?_
  refine WC.loop (fun kk0 ll0 ww0 => ∃ (k : Nat), ll0 = [(0, .slice p xs.length cap), (1, .func (.func 73) #[] #[]), (7, vI (xs.length : Int)), (8, vI (k : Int))] ∧ kk0 = xs.length - k ∧ (k ≤ xs.length) ∧ (∀ i, i < k → (sd (xs.getD i 0)) = false) ∧ HP Tr w ww0 []) (xs.length) [(0, .slice p xs.length cap), (1, .func (.func 73) #[] #[]), (7, vI (xs.length : Int)), (8, vI 0)] ⟨rfl, rfl, rfl, rfl, trivial⟩ ⟨0, rfl, rfl, Nat.zero_le _, fun i hi => absurd hi (Nat.not_lt_zero i), hH1⟩ ?_
  rintro kk l w6 ⟨k, rfl, hkk, hk, hv, hH7⟩ K5 hK5
  refine WC.seq fun K8 hK8 => ?_
  refine WC.region ?_
  by_cases hlt : (k : Int) < (xs.length : Int)
  ·
    refine WL.pure (v := .bool true) 9 rfl (Nat.le_of_ble_eq_true rfl) rfl rfl (x_lss rfl rfl rfl (dT (hlt))) ?_
    refine WL.nil ?_
    refine WQ.then ?_
    refine hK8 _ _ _ ?_
    refine WC.seq fun K9 hK9 => ?_
    refine WC.yes rfl ?_
    refine WC.skip ?_
    refine WQ.then ?_
    refine hK9 _ _ _ ?_
    refine WC.seq fun K10 hK10 => ?_
    refine WC.block ?_
    refine WC.seq fun K11 hK11 => ?_
    refine WC.region ?_
    refine WL.pure (v := vI (k : Int)) 10 rfl (Nat.le_of_ble_eq_true rfl) rfl rfl (by kernel_rfl) ?_
    refine WL.pure (v := vI (k : Int)) 5 rfl (Nat.le_of_ble_eq_true rfl) rfl rfl (by kernel_rfl) ?_
    refine WL.nil ?_
    refine WQ.then ?_
    refine hK11 _ _ _ ?_
    refine WC.seq fun K12 hK12 => ?_
    have hlt' : k < xs.length := by omega
    obtain ⟨g, o, rfl, hrow⟩ := hIn (by omega)
    refine WC.region ?_
    refine WL.pure (v := .func (.func 73) #[] #[]) 11 rfl (Nat.le_of_ble_eq_true rfl) rfl rfl (by kernel_rfl) ?_
    refine WL.pure (v := .slice (some ⟨g, o, none⟩) xs.length cap) 12 rfl (Nat.le_of_ble_eq_true rfl) rfl rfl (by kernel_rfl) ?_
    refine WL.pure (v := vI (k : Int)) 13 rfl (Nat.le_of_ble_eq_true rfl) rfl rfl (by kernel_rfl) ?_
    refine WL.pure (v := vP g (o + k)) 14 rfl (Nat.le_of_ble_eq_true rfl) rfl rfl (x_idx (k) (o + k) rfl rfl rfl Try.underlying58 sz3 (by omega) (by omega) (by omega)) ?_
    refine WL.pure (v := vI (xs.getD k 0)) 15 rfl (Nat.le_of_ble_eq_true rfl) rfl rfl (x_load rfl rfl Try.underlying3 rfl ((HP.oldRange hH7 trivial (hrow k (by omega))) 0 _ rfl)) ?_
    refine WL.call (f := 73) (args := #[vI (xs.getD k 0)]) 16 rfl (Nat.le_of_ble_eq_true rfl) rfl rfl (by kernel_rfl) ?_
    refine (side_any _ _).mono ?_
    rintro e w13 ⟨rfl, rfl⟩
    refine ⟨_, rfl, ?_⟩
    refine WL.nil ?_
    refine WQ.then ?_
    refine hK12 _ _ _ ?_
    refine WC.sub (l' := [(0, .slice (some ⟨g, o, none⟩) xs.length cap), (1, .func (.func 73) #[] #[]), (5, vI (k : Int)), (7, vI (xs.length : Int)), (8, vI (k : Int)), (9, .bool true), (16, .bool (sd (xs.getD k 0)))]) ⟨rfl, rfl, rfl, rfl, rfl, rfl, rfl, trivial⟩ ?_
    rcases Bool.eq_false_or_eq_true (sd (xs.getD k 0)) with hA | hA
    ·
      refine WC.yes (congrArg (fun b => some (Value.bool b)) hA) ?_
      refine WC.seq fun K14 hK14 => ?_
      refine WC.region ?_
      refine WL.pure (v := vI (k : Int)) 17 rfl (Nat.le_of_ble_eq_true rfl) rfl rfl (by kernel_rfl) ?_
      refine WL.pure (v := vI (k : Int)) 4 rfl (Nat.le_of_ble_eq_true rfl) rfl rfl (by kernel_rfl) ?_
      refine WL.nil ?_
      refine WQ.then ?_
      refine hK14 _ _ _ ?_
      refine WC.ret ?_
      refine WQ.inRet ?_
      refine WQ.thenRet ?_
      refine WQ.thenRet ?_
      refine WQ.inRet ?_
      refine WQ.thenRet ?_
      refine WQ.ret1 4 rfl rfl ?_
      exact ⟨k, rfl, ⟨fun h => absurd h (by omega), fun h => by have := h k hlt'; rw [hA] at this; cases this⟩, HP.below hH7⟩
    ·
      refine WC.no (congrArg (fun b => some (Value.bool b)) hA) ?_
      refine WC.skip ?_
      refine WQ.inNormal ?_
      refine WQ.then ?_
      refine hK10 _ _ _ ?_
      refine WC.region ?_
      refine WL.pure (v := vI ((k + 1 : Nat) : Int)) 18 rfl (Nat.le_of_ble_eq_true rfl) rfl rfl (x_add (Z := ((k + 1 : Nat) : Int)) rfl rfl rfl (by omega) (by omega) (by omega)) ?_
      refine WL.pure (v := vI ((k + 1 : Nat) : Int)) 8 rfl (Nat.le_of_ble_eq_true rfl) rfl rfl (by kernel_rfl) ?_
      refine WL.nil ?_
      refine WQ.sub (l' := [(0, .slice (some ⟨g, o, none⟩) xs.length cap), (1, .func (.func 73) #[] #[]), (7, vI (xs.length : Int)), (8, vI ((k + 1 : Nat) : Int))]) ⟨rfl, rfl, rfl, rfl, trivial⟩ ?_
      refine WQ.then (hK5 _ _ _ (by omega) ⟨k + 1, rfl, rfl, by omega, fun i hi => (Nat.lt_succ_iff_lt_or_eq.1 hi).elim (hv i) (fun e => by subst e; first | exact hA | (rw [hA]; rfl)), hH7⟩)
  ·
    refine WL.pure (v := .bool false) 9 rfl (Nat.le_of_ble_eq_true rfl) rfl rfl (x_lss rfl rfl rfl (dF (hlt))) ?_
    refine WL.nil ?_
    refine WQ.then ?_
    refine hK8 _ _ _ ?_
    refine WC.seq fun K15 hK15 => ?_
    refine WC.no rfl ?_
    refine WC.exit ?_
    refine WQ.thenExit ?_
    refine WQ.thenExit ?_
    refine WQ.inExit ?_
    refine WQ.then ?_
    refine hK3 _ _ _ ?_
    refine WC.seq fun K16 hK16 => ?_
    refine WC.region ?_
    refine WL.pure (v := vI (-1)) 4 rfl (Nat.le_of_ble_eq_true rfl) rfl rfl (by kernel_rfl) ?_
    refine WL.nil ?_
    refine WQ.then ?_
    refine hK16 _ _ _ ?_
    refine WC.ret ?_
    refine WQ.ret1 4 rfl rfl ?_
    exact ⟨-1, rfl, ⟨fun _ i hi => hv i (by omega), fun _ => by omega⟩, HP.below hH7⟩
set_option maxRecDepth 20000 in
set_option maxHeartbeats 4000000 in
theorem con_side (p : Option Addr) (cap : Nat) (xs : List Int) (w : World) (hIn : InI w p xs) (hn : xs.length ≤ 1000) :
    Calls Try.prog 74 #[.slice p xs.length cap, .func (.func 73) #[] #[]] w fun e w' => (e = .returned (.bool false) ∧ (∀ i, i < xs.length → (sd (xs.getD i 0)) = false) ∧ Below w.heap.size w w') ∨ (e = .returned (.bool true) ∧ Below w.heap.size w w') := by
  refine calls_of Try.func74 rfl (m := 9) rfl [(0, .slice p xs.length cap), (1, .func (.func 73) #[] #[])] (Fr_enter [.slice p xs.length cap, .func (.func 73) #[] #[]] 9 (Nat.le_of_ble_eq_true rfl)) ?_
  have hH1 : HP Tr w w [] := HP.refl w
  refine WC.seq fun K2 hK2 => ?_
  refine WC.region ?_
  refine WL.pure (v := .bool false) 4 rfl (Nat.le_of_ble_eq_true rfl) rfl rfl (by kernel_rfl) ?_
  refine WL.nil ?_
  refine WQ.then ?_
  refine hK2 _ _ _ ?_
  refine WC.seq fun K3 hK3 => ?_
  refine WC.region ?_
  refine WL.pure (v := .slice p xs.length cap) 5 rfl (Nat.le_of_ble_eq_true rfl) rfl rfl (by kernel_rfl) ?_
  refine WL.pure (v := .func (.func 73) #[] #[]) 6 rfl (Nat.le_of_ble_eq_true rfl) rfl rfl (by kernel_rfl) ?_
  refine WL.call (f := 95) (args := #[.slice p xs.length cap, .func (.func 73) #[] #[]]) 7 rfl (Nat.le_of_ble_eq_true rfl) rfl rfl (by kernel_rfl) ?_
  refine (idx_side _ _ xs _ (hIn.below (HP.below hH1)) hn).mono ?_
  rintro e w4 ⟨r, rfl, hr, hb5⟩
  refine ⟨_, rfl, ?_⟩
  have hH6 : HP Tr w _ [] := HP.call hH1 hb5
  by_cases h8 : (0 : Int) ≤ r
  ·
    refine WL.pure (v := .bool true) 8 rfl (Nat.le_of_ble_eq_true rfl) rfl rfl (x_geq rfl rfl rfl (dT (h8))) ?_
    refine WL.pure (v := .bool true) 4 rfl (Nat.le_of_ble_eq_true rfl) rfl rfl (by kernel_rfl) ?_
    refine WL.nil ?_
    refine WQ.then ?_
    refine hK3 _ _ _ ?_
    refine WC.ret ?_
    refine WQ.ret1 4 rfl rfl ?_
    exact .inr ⟨rfl, HP.below hH6⟩
  ·
    refine WL.pure (v := .bool false) 8 rfl (Nat.le_of_ble_eq_true rfl) rfl rfl (x_geq rfl rfl rfl (dF (h8))) ?_
    refine WL.pure (v := .bool false) 4 rfl (Nat.le_of_ble_eq_true rfl) rfl rfl (by kernel_rfl) ?_
    refine WL.nil ?_
    refine WQ.then ?_
    refine hK3 _ _ _ ?_
    refine WC.ret ?_
    refine WQ.ret1 4 rfl rfl ?_
    exact .inl ⟨rfl, hr.1 (by omega), HP.below hH6⟩
set_option maxRecDepth 20000 in
set_option maxHeartbeats 4000000 in
theorem idx_nwd (p : Option Addr) (cap : Nat) (xs : List Int) (w : World) (hIn : InI w p xs) (hn : xs.length ≤ 1000) :
    Calls Try.prog 95 #[.slice p xs.length cap, .func (.func 75) #[] #[]] w fun e w' => ∃ r : Int, e = .returned (vI r) ∧ (r < 0 ↔ ∀ i, i < xs.length → (!wd (xs.getD i 0)) = false) ∧ Below w.heap.size w w' := by
  refine calls_of Try.func95 rfl (m := 19) rfl [(0, .slice p xs.length cap), (1, .func (.func 75) #[] #[])] (Fr_enter [.slice p xs.length cap, .func (.func 75) #[] #[]] 19 (Nat.le_of_ble_eq_true rfl)) ?_
  have hH1 : HP Tr w w [] := HP.refl w
  refine WC.seq fun K2 hK2 => ?_
  refine WC.region ?_
  refine WL.pure (v := vI 0) 4 rfl (Nat.le_of_ble_eq_true rfl) rfl rfl (by kernel_rfl) ?_
  refine WL.nil ?_
  refine WQ.then ?_
  refine hK2 _ _ _ ?_
  refine WC.seq fun K3 hK3 => ?_
  refine WC.seq fun K4 hK4 => ?_
  refine WC.region ?_
  refine WL.pure (v := .slice p xs.length cap) 6 rfl (Nat.le_of_ble_eq_true rfl) rfl rfl (by kernel_rfl) ?_
  refine WL.pure (v := vI (xs.length : Int)) 7 rfl (Nat.le_of_ble_eq_true rfl) rfl rfl (by kernel_rfl) ?_
  refine WL.pure (v := vI 0) 8 rfl (Nat.le_of_ble_eq_true rfl) rfl rfl (by kernel_rfl) ?_
  refine WL.nil ?_
  refine WQ.then ?_
  refine hK4 _ _ _ ?_
  refine WC.block ?_
  refine WC.loop (fun kk0 ll0 ww0 => ∃ (k : Nat), ll0 = [(0, .slice p xs.length cap), (1, .func (.func 75) #[] #[]), (7, vI (xs.length : Int)), (8, vI (k : Int))] ∧ kk0 = xs.length - k ∧ (k ≤ xs.length) ∧ (∀ i, i < k → (!wd (xs.getD i 0)) = false) ∧ HP Tr w ww0 []) (xs.length) [(0, .slice p xs.length cap), (1, .func (.func 75) #[] #[]), (7, vI (xs.length : Int)), (8, vI 0)] ⟨rfl, rfl, rfl, rfl, trivial⟩ ⟨0, rfl, rfl, Nat.zero_le _, fun i hi => absurd hi (Nat.not_lt_zero i), hH1⟩ ?_
  rintro kk l w6 ⟨k, rfl, hkk, hk, hv, hH7⟩ K5 hK5
  refine WC.seq fun K8 hK8 => ?_
  refine WC.region ?_
  by_cases hlt : (k : Int) < (xs.length : Int)
  ·
    refine WL.pure (v := .bool true) 9 rfl (Nat.le_of_ble_eq_true rfl) rfl rfl (x_lss rfl rfl rfl (dT (hlt))) ?_
    refine WL.nil ?_
    refine WQ.then ?_
    refine hK8 _ _ _ ?_
    refine WC.seq fun K9 hK9 => ?_
    refine WC.yes rfl ?_
    refine WC.skip ?_
    refine WQ.then ?_
    refine hK9 _ _ _ ?_
    refine WC.seq fun K10 hK10 => ?_
    refine WC.block ?_
    refine WC.seq fun K11 hK11 => ?_
    refine WC.region ?_
    refine WL.pure (v := vI (k : Int)) 10 rfl (Nat.le_of_ble_eq_true rfl) rfl rfl (by kernel_rfl) ?_
    refine WL.pure (v := vI (k : Int)) 5 rfl (Nat.le_of_ble_eq_true rfl) rfl rfl (by kernel_rfl) ?_
    refine WL.nil ?_
    refine WQ.then ?_
    refine hK11 _ _ _ ?_
    refine WC.seq fun K12 hK12 => ?_
    have hlt' : k < xs.length := by omega
    obtain ⟨g, o, rfl, hrow⟩ := hIn (by omega)
    refine WC.region ?_
    refine WL.pure (v := .func (.func 75) #[] #[]) 11 rfl (Nat.le_of_ble_eq_true rfl) rfl rfl (by kernel_rfl) ?_
    refine WL.pure (v := .slice (some ⟨g, o, none⟩) xs.length cap) 12 rfl (Nat.le_of_ble_eq_true rfl) rfl rfl (by kernel_rfl) ?_
    refine WL.pure (v := vI (k : Int)) 13 rfl (Nat.le_of_ble_eq_true rfl) rfl rfl (by kernel_rfl) ?_
    refine WL.pure (v := vP g (o + k)) 14 rfl (Nat.le_of_ble_eq_true rfl) rfl rfl (x_idx (k) (o + k) rfl rfl rfl Try.underlying58 sz3 (by omega) (by omega) (by omega)) ?_
    refine WL.pure (v := vI (xs.getD k 0)) 15 rfl (Nat.le_of_ble_eq_true rfl) rfl rfl (x_load rfl rfl Try.underlying3 rfl ((HP.oldRange hH7 trivial (hrow k (by omega))) 0 _ rfl)) ?_
    refine WL.call (f := 75) (args := #[vI (xs.getD k 0)]) 16 rfl (Nat.le_of_ble_eq_true rfl) rfl rfl (by kernel_rfl) ?_
    refine (nwd_any _ _).mono ?_
    rintro e w13 ⟨rfl, rfl⟩
    refine ⟨_, rfl, ?_⟩
    refine WL.nil ?_
    refine WQ.then ?_
    refine hK12 _ _ _ ?_
    refine WC.sub (l' := [(0, .slice (some ⟨g, o, none⟩) xs.length cap), (1, .func (.func 75) #[] #[]), (5, vI (k : Int)), (7, vI (xs.length : Int)), (8, vI (k : Int)), (9, .bool true), (16, .bool (!wd (xs.getD k 0)))]) ⟨rfl, rfl, rfl, rfl, rfl, rfl, rfl, trivial⟩ ?_
    rcases Bool.eq_false_or_eq_true (wd (xs.getD k 0)) with hA | hA
    ·
      refine WC.no (congrArg (fun b => some (Value.bool (!b))) hA) ?_
      refine WC.skip ?_
      refine WQ.inNormal ?_
      refine WQ.then ?_
      refine hK10 _ _ _ ?_
      refine WC.region ?_
      refine WL.pure (v := vI ((k + 1 : Nat) : Int)) 18 rfl (Nat.le_of_ble_eq_true rfl) rfl rfl (x_add (Z := ((k + 1 : Nat) : Int)) rfl rfl rfl (by omega) (by omega) (by omega)) ?_
      refine WL.pure (v := vI ((k + 1 : Nat) : Int)) 8 rfl (Nat.le_of_ble_eq_true rfl) rfl rfl (by kernel_rfl) ?_
      refine WL.nil ?_
      refine WQ.sub (l' := [(0, .slice (some ⟨g, o, none⟩) xs.length cap), (1, .func (.func 75) #[] #[]), (7, vI (xs.length : Int)), (8, vI ((k + 1 : Nat) : Int))]) ⟨rfl, rfl, rfl, rfl, trivial⟩ ?_
      refine WQ.then (hK5 _ _ _ (by omega) ⟨k + 1, rfl, rfl, by omega, fun i hi => (Nat.lt_succ_iff_lt_or_eq.1 hi).elim (hv i) (fun e => by subst e; first | exact hA | (rw [hA]; rfl)), hH7⟩)
    ·
      refine WC.yes (congrArg (fun b => some (Value.bool (!b))) hA) ?_
      refine WC.seq fun K14 hK14 => ?_
      refine WC.region ?_
      refine WL.pure (v := vI (k : Int)) 17 rfl (Nat.le_of_ble_eq_true rfl) rfl rfl (by kernel_rfl) ?_
      refine WL.pure (v := vI (k : Int)) 4 rfl (Nat.le_of_ble_eq_true rfl) rfl rfl (by kernel_rfl) ?_
      refine WL.nil ?_
      refine WQ.then ?_
      refine hK14 _ _ _ ?_
      refine WC.ret ?_
      refine WQ.inRet ?_
      refine WQ.thenRet ?_
      refine WQ.thenRet ?_
      refine WQ.inRet ?_
      refine WQ.thenRet ?_
      refine WQ.ret1 4 rfl rfl ?_
      exact ⟨k, rfl, ⟨fun h => absurd h (by omega), fun h => by have := h k hlt'; rw [hA] at this; cases this⟩, HP.below hH7⟩
  ·
    refine WL.pure (v := .bool false) 9 rfl (Nat.le_of_ble_eq_true rfl) rfl rfl (x_lss rfl rfl rfl (dF (hlt))) ?_
    refine WL.nil ?_
    refine WQ.then ?_
    refine hK8 _ _ _ ?_
    refine WC.seq fun K15 hK15 => ?_
    refine WC.no rfl ?_
    refine WC.exit ?_
    refine WQ.thenExit ?_
    refine WQ.thenExit ?_
    refine WQ.inExit ?_
    refine WQ.then ?_
    refine hK3 _ _ _ ?_
    refine WC.seq fun K16 hK16 => ?_
    refine WC.region ?_
    refine WL.pure (v := vI (-1)) 4 rfl (Nat.le_of_ble_eq_true rfl) rfl rfl (by kernel_rfl) ?_
    refine WL.nil ?_
    refine WQ.then ?_
    refine hK16 _ _ _ ?_
    refine WC.ret ?_
    refine WQ.ret1 4 rfl rfl ?_
    exact ⟨-1, rfl, ⟨fun _ i hi => hv i (by omega), fun _ => by omega⟩, HP.below hH7⟩
set_option maxRecDepth 20000 in
set_option maxHeartbeats 4000000 in
theorem con_nwd (p : Option Addr) (cap : Nat) (xs : List Int) (w : World) (hIn : InI w p xs) (hn : xs.length ≤ 1000) :
    Calls Try.prog 74 #[.slice p xs.length cap, .func (.func 75) #[] #[]] w fun e w' => (e = .returned (.bool false) ∧ (∀ i, i < xs.length → (!wd (xs.getD i 0)) = false) ∧ Below w.heap.size w w') ∨ (e = .returned (.bool true) ∧ Below w.heap.size w w') := by
  refine calls_of Try.func74 rfl (m := 9) rfl [(0, .slice p xs.length cap), (1, .func (.func 75) #[] #[])] (Fr_enter [.slice p xs.length cap, .func (.func 75) #[] #[]] 9 (Nat.le_of_ble_eq_true rfl)) ?_
  have hH1 : HP Tr w w [] := HP.refl w
  refine WC.seq fun K2 hK2 => ?_
  refine WC.region ?_
  refine WL.pure (v := .bool false) 4 rfl (Nat.le_of_ble_eq_true rfl) rfl rfl (by kernel_rfl) ?_
  refine WL.nil ?_
  refine WQ.then ?_
  refine hK2 _ _ _ ?_
  refine WC.seq fun K3 hK3 => ?_
  refine WC.region ?_
  refine WL.pure (v := .slice p xs.length cap) 5 rfl (Nat.le_of_ble_eq_true rfl) rfl rfl (by kernel_rfl) ?_
  refine WL.pure (v := .func (.func 75) #[] #[]) 6 rfl (Nat.le_of_ble_eq_true rfl) rfl rfl (by kernel_rfl) ?_
  refine WL.call (f := 95) (args := #[.slice p xs.length cap, .func (.func 75) #[] #[]]) 7 rfl (Nat.le_of_ble_eq_true rfl) rfl rfl (by kernel_rfl) ?_
  refine (idx_nwd _ _ xs _ (hIn.below (HP.below hH1)) hn).mono ?_
  rintro e w4 ⟨r, rfl, hr, hb5⟩
  refine ⟨_, rfl, ?_⟩
  have hH6 : HP Tr w _ [] := HP.call hH1 hb5
  by_cases h8 : (0 : Int) ≤ r
  ·
    refine WL.pure (v := .bool true) 8 rfl (Nat.le_of_ble_eq_true rfl) rfl rfl (x_geq rfl rfl rfl (dT (h8))) ?_
    refine WL.pure (v := .bool true) 4 rfl (Nat.le_of_ble_eq_true rfl) rfl rfl (by kernel_rfl) ?_
    refine WL.nil ?_
    refine WQ.then ?_
    refine hK3 _ _ _ ?_
    refine WC.ret ?_
    refine WQ.ret1 4 rfl rfl ?_
    exact .inr ⟨rfl, HP.below hH6⟩
  ·
    refine WL.pure (v := .bool false) 8 rfl (Nat.le_of_ble_eq_true rfl) rfl rfl (x_geq rfl rfl rfl (dF (h8))) ?_
    refine WL.pure (v := .bool false) 4 rfl (Nat.le_of_ble_eq_true rfl) rfl rfl (by kernel_rfl) ?_
    refine WL.nil ?_
    refine WQ.then ?_
    refine hK3 _ _ _ ?_
    refine WC.ret ?_
    refine WQ.ret1 4 rfl rfl ?_
    exact .inl ⟨rfl, hr.1 (by omega), HP.below hH6⟩
set_option maxRecDepth 20000 in
theorem Busy_any (q c n : Nat) (C : Nat → Int) (h t p k : Nat) (wo tk : Int) (b1 b2 : Bool) (w : World) (hB : OwnB w (QB q c n C h t p k wo tk)) (hn : 2 ≤ n ∧ n ≤ 9) (hh : h < n) (ht : t < n) (h1 : decide (p ≠ 0) = b1) (h2 : decide (k ≠ 0) = b2) :
    Calls Try.prog 77 #[vP q 0] w fun e w' => e = .returned (.tuple #[.bool b1, .bool b2]) ∧ Below w.heap.size w w' := by
  by_cases hp : p = 0 <;> by_cases hk : k = 0
  · subst hp hk h1 h2; exact Busy_00 q c n C h t wo tk w hB hn hh ht
  · subst hp h1 h2; rw [decide_eq_true hk]; exact Busy_01 q c n C h t k wo tk w hB hn hh ht hk
  · subst hk h1 h2; rw [decide_eq_true hp]; exact Busy_10 q c n C h t p wo tk w hB hn hh ht hp
  · subst h1 h2; rw [decide_eq_true hp, decide_eq_true hk]; exact Busy_11 q c n C h t p k wo tk w hB hn hh ht hp hk
set_option maxRecDepth 20000 in
set_option maxHeartbeats 4000000 in
theorem Play_any (M K : Int) (p q0 : Option Addr) (cp cq : Nat) (P sc : List Int) (w : World) (hM1 : -9223372036854775808 ≤ M ∧ M ≤ 9223372036854775807) (hP : InI w p P) (hPc : P.length ≤ cp) (hSc : InI w q0 sc) (hn1 : P.length ≤ 100) (hn2 : sc.length ≤ 1000) :
    Calls Try.prog 47 #[vI M, .slice p P.length cp, vI K, .slice q0 sc.length cq] w (PlayR M P K sc w) := by
  refine calls_of Try.func47 rfl (m := 130) rfl [(0, vI M), (1, .slice p P.length cp), (2, vI K), (3, .slice q0 sc.length cq)] (Fr_enter [vI M, .slice p P.length cp, vI K, .slice q0 sc.length cq] 130 (Nat.le_of_ble_eq_true rfl)) ?_
  have hH1 : HP Tr w w [] := HP.refl w
  refine WC.seq fun K2 hK2 => ?_
  refine WC.region ?_
  refine WL.pure (v := .slice none 0 0) 8 rfl (Nat.le_of_ble_eq_true rfl) rfl rfl (by kernel_rfl) ?_
  refine WL.pure (v := .slice none 0 0) 9 rfl (Nat.le_of_ble_eq_true rfl) rfl rfl (by kernel_rfl) ?_
  refine WL.pure (v := vI 0) 10 rfl (Nat.le_of_ble_eq_true rfl) rfl rfl (by kernel_rfl) ?_
  refine WL.nil ?_
  refine WQ.then ?_
  refine hK2 _ _ _ ?_
  refine WC.seq fun K3 hK3 => ?_
  refine WC.region ?_
  refine WL.pure (v := vI M) 26 rfl (Nat.le_of_ble_eq_true rfl) rfl rfl (by kernel_rfl) ?_
  refine WL.call (f := 70) (args := #[vI M]) 27 rfl (Nat.le_of_ble_eq_true rfl) rfl rfl (by kernel_rfl) ?_
  refine (New_any M _).mono ?_
  rintro e w1 (⟨hM, rfl, hb⟩ | ⟨hM, q, c, rfl, hb⟩)
  ·
    refine ⟨_, rfl, ?_⟩
    have hH4 : HP Tr w _ [] := HP.call hH1 hb
    refine WL.pure (v := .tuple #[.pointer none, vI 1]) 25 rfl (Nat.le_of_ble_eq_true rfl) rfl rfl (by kernel_rfl) ?_
    refine WL.pure (v := .pointer none) 28 rfl (Nat.le_of_ble_eq_true rfl) rfl rfl (by kernel_rfl) ?_
    refine WL.pure (v := vI 1) 29 rfl (Nat.le_of_ble_eq_true rfl) rfl rfl (by kernel_rfl) ?_
    refine WL.pure (v := .pointer none) 11 rfl (Nat.le_of_ble_eq_true rfl) rfl rfl (by kernel_rfl) ?_
    refine WL.pure (v := vI 1) 12 rfl (Nat.le_of_ble_eq_true rfl) rfl rfl (by kernel_rfl) ?_
    refine WL.nil ?_
    refine WQ.then ?_
    refine hK3 _ _ _ ?_
    refine WC.seq fun K5 hK5 => ?_
    refine WC.region ?_
    refine WL.pure (v := .func (.func 73) #[] #[]) 13 rfl (Nat.le_of_ble_eq_true rfl) rfl rfl (by kernel_rfl) ?_
    refine WL.nil ?_
    refine WQ.then ?_
    refine hK5 _ _ _ ?_
    refine WC.seq fun K6 hK6 => ?_
    refine WC.seq fun K7 hK7 => ?_
    refine WC.region ?_
    refine WL.pure (v := vI 1) 30 rfl (Nat.le_of_ble_eq_true rfl) rfl rfl (by kernel_rfl) ?_
    refine WL.pure (v := .bool true) 31 rfl (Nat.le_of_ble_eq_true rfl) rfl rfl (x_neq rfl rfl rfl (by decide)) ?_
    refine WL.pure (v := .bool true) 32 rfl (Nat.le_of_ble_eq_true rfl) rfl rfl (by kernel_rfl) ?_
    refine WL.pass 33 rfl (Nat.le_of_ble_eq_true rfl) rfl ?_
    refine WL.pass 34 rfl (Nat.le_of_ble_eq_true rfl) rfl ?_
    refine WL.pure (v := .bool true) 35 rfl (Nat.le_of_ble_eq_true rfl) rfl rfl (by kernel_rfl) ?_
    refine WL.pure (v := .bool true) 36 rfl (Nat.le_of_ble_eq_true rfl) rfl rfl (by kernel_rfl) ?_
    refine WL.pass 37 rfl (Nat.le_of_ble_eq_true rfl) rfl ?_
    refine WL.pass 38 rfl (Nat.le_of_ble_eq_true rfl) rfl ?_
    refine WL.pure (v := .bool true) 39 rfl (Nat.le_of_ble_eq_true rfl) rfl rfl (by kernel_rfl) ?_
    refine WL.pure (v := .bool true) 40 rfl (Nat.le_of_ble_eq_true rfl) rfl rfl (by kernel_rfl) ?_
    refine WL.pass 41 rfl (Nat.le_of_ble_eq_true rfl) rfl ?_
    refine WL.pass 42 rfl (Nat.le_of_ble_eq_true rfl) rfl ?_
    refine WL.pure (v := .bool true) 43 rfl (Nat.le_of_ble_eq_true rfl) rfl rfl (by kernel_rfl) ?_
    refine WL.pure (v := .bool true) 44 rfl (Nat.le_of_ble_eq_true rfl) rfl rfl (by kernel_rfl) ?_
    refine WL.pass 45 rfl (Nat.le_of_ble_eq_true rfl) rfl ?_
    refine WL.pass 46 rfl (Nat.le_of_ble_eq_true rfl) rfl ?_
    refine WL.pass 47 rfl (Nat.le_of_ble_eq_true rfl) rfl ?_
    refine WL.pure (v := .bool true) 48 rfl (Nat.le_of_ble_eq_true rfl) rfl rfl (by kernel_rfl) ?_
    refine WL.nil ?_
    refine WQ.then ?_
    refine hK7 _ _ _ ?_
    refine WC.sub (l' := [(0, vI M), (1, .slice p P.length cp), (2, vI K), (3, .slice q0 sc.length cq), (8, .slice none 0 0), (9, .slice none 0 0), (10, vI 0), (11, .pointer none), (12, vI 1), (13, .func (.func 73) #[] #[]), (48, .bool true)]) ⟨rfl, rfl, rfl, rfl, rfl, rfl, rfl, rfl, rfl, rfl, rfl, trivial⟩ ?_
    refine WC.yes rfl ?_
    refine WC.seq fun K8 hK8 => ?_
    refine WC.region ?_
    refine WL.pure (v := .slice none 0 0) 8 rfl (Nat.le_of_ble_eq_true rfl) rfl rfl (by kernel_rfl) ?_
    refine WL.pure (v := .slice none 0 0) 9 rfl (Nat.le_of_ble_eq_true rfl) rfl rfl (by kernel_rfl) ?_
    refine WL.pure (v := vI 1) 10 rfl (Nat.le_of_ble_eq_true rfl) rfl rfl (by kernel_rfl) ?_
    refine WL.nil ?_
    refine WQ.then ?_
    refine hK8 _ _ _ ?_
    refine WC.ret ?_
    refine WQ.thenRet ?_
    refine WQ.ret3 8 9 10 rfl rfl rfl rfl ?_
    exact .inl ⟨1, by decide, rfl, HP.below hH4⟩
  ·
    refine ⟨_, rfl, ?_⟩
    obtain ⟨m, rfl⟩ : ∃ m : Nat, M = (m : Int) := ⟨M.toNat, by omega⟩
    rw [Int.toNat_natCast] at hb
    obtain ⟨n, hn⟩ : ∃ n, n = m + 1 := ⟨_, rfl⟩
    rw [← hn] at hb
    have hn29 : 2 ≤ n ∧ n ≤ 9 := by omega
    have hH9 : HP Tr w _ [.cel q #[.slice (some ⟨c, 0, none⟩) n n, vI 0, vI 0, vI 0, vI 0, vI 0, vI 0] 129, .cel c (irow n (fun _ => 0)) 3] := HP.trans hH1 hb
    refine WL.pure (v := .tuple #[vP q 0, vI 0]) 25 rfl (Nat.le_of_ble_eq_true rfl) rfl rfl (by kernel_rfl) ?_
    refine WL.pure (v := vP q 0) 28 rfl (Nat.le_of_ble_eq_true rfl) rfl rfl (by kernel_rfl) ?_
    refine WL.pure (v := vI 0) 29 rfl (Nat.le_of_ble_eq_true rfl) rfl rfl (by kernel_rfl) ?_
    refine WL.pure (v := vP q 0) 11 rfl (Nat.le_of_ble_eq_true rfl) rfl rfl (by kernel_rfl) ?_
    refine WL.pure (v := vI 0) 12 rfl (Nat.le_of_ble_eq_true rfl) rfl rfl (by kernel_rfl) ?_
    refine WL.nil ?_
    refine WQ.then ?_
    refine hK3 _ _ _ ?_
    refine WC.seq fun K10 hK10 => ?_
    refine WC.region ?_
    refine WL.pure (v := .func (.func 73) #[] #[]) 13 rfl (Nat.le_of_ble_eq_true rfl) rfl rfl (by kernel_rfl) ?_
    refine WL.nil ?_
    refine WQ.then ?_
    refine hK10 _ _ _ ?_
    refine WC.seq fun K11 hK11 => ?_
    refine WC.seq fun K12 hK12 => ?_
    refine WC.region ?_
    refine WL.pure (v := vI 0) 30 rfl (Nat.le_of_ble_eq_true rfl) rfl rfl (by kernel_rfl) ?_
    refine WL.pure (v := .bool false) 31 rfl (Nat.le_of_ble_eq_true rfl) rfl rfl (x_neq rfl rfl rfl (by decide)) ?_
    refine WL.pure (v := .bool false) 32 rfl (Nat.le_of_ble_eq_true rfl) rfl rfl (by kernel_rfl) ?_
    refine WL.pure (v := vI K) 33 rfl (Nat.le_of_ble_eq_true rfl) rfl rfl (by kernel_rfl) ?_
    by_cases h34 : K < 0
    ·
      refine WL.pure (v := .bool true) 34 rfl (Nat.le_of_ble_eq_true rfl) rfl rfl (x_lss rfl rfl rfl (dT (h34))) ?_
      refine WL.pure (v := .bool true) 35 rfl (Nat.le_of_ble_eq_true rfl) rfl rfl (by kernel_rfl) ?_
      refine WL.pure (v := .bool true) 36 rfl (Nat.le_of_ble_eq_true rfl) rfl rfl (by kernel_rfl) ?_
      refine WL.pass 37 rfl (Nat.le_of_ble_eq_true rfl) rfl ?_
      refine WL.pass 38 rfl (Nat.le_of_ble_eq_true rfl) rfl ?_
      refine WL.pure (v := .bool true) 39 rfl (Nat.le_of_ble_eq_true rfl) rfl rfl (by kernel_rfl) ?_
      refine WL.pure (v := .bool true) 40 rfl (Nat.le_of_ble_eq_true rfl) rfl rfl (by kernel_rfl) ?_
      refine WL.pass 41 rfl (Nat.le_of_ble_eq_true rfl) rfl ?_
      refine WL.pass 42 rfl (Nat.le_of_ble_eq_true rfl) rfl ?_
      refine WL.pure (v := .bool true) 43 rfl (Nat.le_of_ble_eq_true rfl) rfl rfl (by kernel_rfl) ?_
      refine WL.pure (v := .bool true) 44 rfl (Nat.le_of_ble_eq_true rfl) rfl rfl (by kernel_rfl) ?_
      refine WL.pass 45 rfl (Nat.le_of_ble_eq_true rfl) rfl ?_
      refine WL.pass 46 rfl (Nat.le_of_ble_eq_true rfl) rfl ?_
      refine WL.pass 47 rfl (Nat.le_of_ble_eq_true rfl) rfl ?_
      refine WL.pure (v := .bool true) 48 rfl (Nat.le_of_ble_eq_true rfl) rfl rfl (by kernel_rfl) ?_
      refine WL.nil ?_
      refine WQ.then ?_
      refine hK12 _ _ _ ?_
      refine WC.sub (l' := [(0, vI (m : Int)), (1, .slice p P.length cp), (2, vI K), (3, .slice q0 sc.length cq), (8, .slice none 0 0), (9, .slice none 0 0), (10, vI 0), (11, vP q 0), (12, vI 0), (13, .func (.func 73) #[] #[]), (48, .bool true)]) ⟨rfl, rfl, rfl, rfl, rfl, rfl, rfl, rfl, rfl, rfl, rfl, trivial⟩ ?_
      refine WC.yes rfl ?_
      refine WC.seq fun K13 hK13 => ?_
      refine WC.region ?_
      refine WL.pure (v := .slice none 0 0) 8 rfl (Nat.le_of_ble_eq_true rfl) rfl rfl (by kernel_rfl) ?_
      refine WL.pure (v := .slice none 0 0) 9 rfl (Nat.le_of_ble_eq_true rfl) rfl rfl (by kernel_rfl) ?_
      refine WL.pure (v := vI 1) 10 rfl (Nat.le_of_ble_eq_true rfl) rfl rfl (by kernel_rfl) ?_
      refine WL.nil ?_
      refine WQ.then ?_
      refine hK13 _ _ _ ?_
      refine WC.ret ?_
      refine WQ.thenRet ?_
      refine WQ.ret3 8 9 10 rfl rfl rfl rfl ?_
      exact .inl ⟨1, by decide, rfl, HP.below hH9⟩
    ·
      refine WL.pure (v := .bool false) 34 rfl (Nat.le_of_ble_eq_true rfl) rfl rfl (x_lss rfl rfl rfl (dF (h34))) ?_
      refine WL.pure (v := .bool false) 35 rfl (Nat.le_of_ble_eq_true rfl) rfl rfl (by kernel_rfl) ?_
      refine WL.pure (v := .bool false) 36 rfl (Nat.le_of_ble_eq_true rfl) rfl rfl (by kernel_rfl) ?_
      refine WL.pure (v := vI K) 37 rfl (Nat.le_of_ble_eq_true rfl) rfl rfl (by kernel_rfl) ?_
      by_cases h38 : (40 : Int) < K
      ·
        refine WL.pure (v := .bool true) 38 rfl (Nat.le_of_ble_eq_true rfl) rfl rfl (x_gtr rfl rfl rfl (dT (h38))) ?_
        refine WL.pure (v := .bool true) 39 rfl (Nat.le_of_ble_eq_true rfl) rfl rfl (by kernel_rfl) ?_
        refine WL.pure (v := .bool true) 40 rfl (Nat.le_of_ble_eq_true rfl) rfl rfl (by kernel_rfl) ?_
        refine WL.pass 41 rfl (Nat.le_of_ble_eq_true rfl) rfl ?_
        refine WL.pass 42 rfl (Nat.le_of_ble_eq_true rfl) rfl ?_
        refine WL.pure (v := .bool true) 43 rfl (Nat.le_of_ble_eq_true rfl) rfl rfl (by kernel_rfl) ?_
        refine WL.pure (v := .bool true) 44 rfl (Nat.le_of_ble_eq_true rfl) rfl rfl (by kernel_rfl) ?_
        refine WL.pass 45 rfl (Nat.le_of_ble_eq_true rfl) rfl ?_
        refine WL.pass 46 rfl (Nat.le_of_ble_eq_true rfl) rfl ?_
        refine WL.pass 47 rfl (Nat.le_of_ble_eq_true rfl) rfl ?_
        refine WL.pure (v := .bool true) 48 rfl (Nat.le_of_ble_eq_true rfl) rfl rfl (by kernel_rfl) ?_
        refine WL.nil ?_
        refine WQ.then ?_
        refine hK12 _ _ _ ?_
        refine WC.sub (l' := [(0, vI (m : Int)), (1, .slice p P.length cp), (2, vI K), (3, .slice q0 sc.length cq), (8, .slice none 0 0), (9, .slice none 0 0), (10, vI 0), (11, vP q 0), (12, vI 0), (13, .func (.func 73) #[] #[]), (48, .bool true)]) ⟨rfl, rfl, rfl, rfl, rfl, rfl, rfl, rfl, rfl, rfl, rfl, trivial⟩ ?_
        refine WC.yes rfl ?_
        refine WC.seq fun K14 hK14 => ?_
        refine WC.region ?_
        refine WL.pure (v := .slice none 0 0) 8 rfl (Nat.le_of_ble_eq_true rfl) rfl rfl (by kernel_rfl) ?_
        refine WL.pure (v := .slice none 0 0) 9 rfl (Nat.le_of_ble_eq_true rfl) rfl rfl (by kernel_rfl) ?_
        refine WL.pure (v := vI 1) 10 rfl (Nat.le_of_ble_eq_true rfl) rfl rfl (by kernel_rfl) ?_
        refine WL.nil ?_
        refine WQ.then ?_
        refine hK14 _ _ _ ?_
        refine WC.ret ?_
        refine WQ.thenRet ?_
        refine WQ.ret3 8 9 10 rfl rfl rfl rfl ?_
        exact .inl ⟨1, by decide, rfl, HP.below hH9⟩
      ·
        refine WL.pure (v := .bool false) 38 rfl (Nat.le_of_ble_eq_true rfl) rfl rfl (x_gtr rfl rfl rfl (dF (h38))) ?_
        refine WL.pure (v := .bool false) 39 rfl (Nat.le_of_ble_eq_true rfl) rfl rfl (by kernel_rfl) ?_
        refine WL.pure (v := .bool false) 40 rfl (Nat.le_of_ble_eq_true rfl) rfl rfl (by kernel_rfl) ?_
        refine WL.pure (v := .slice p P.length cp) 41 rfl (Nat.le_of_ble_eq_true rfl) rfl rfl (by kernel_rfl) ?_
        refine WL.call (f := 74) (args := #[.slice p P.length cp, .func (.func 75) #[] #[]]) 42 rfl (Nat.le_of_ble_eq_true rfl) rfl rfl (by kernel_rfl) ?_
        refine (con_nwd _ _ P _ (hP.below (HP.below hH9)) (by omega)).mono ?_
        rintro e w5 (⟨rfl, hvnwd, hb⟩ | ⟨rfl, hb⟩)
        ·
          refine ⟨_, rfl, ?_⟩
          have hH15 : HP Tr w _ [.cel q #[.slice (some ⟨c, 0, none⟩) n n, vI 0, vI 0, vI 0, vI 0, vI 0, vI 0] 129, .cel c (irow n (fun _ => 0)) 3] := HP.call hH9 hb
          refine WL.pure (v := .bool false) 43 rfl (Nat.le_of_ble_eq_true rfl) rfl rfl (by kernel_rfl) ?_
          refine WL.pure (v := .bool false) 44 rfl (Nat.le_of_ble_eq_true rfl) rfl rfl (by kernel_rfl) ?_
          refine WL.pure (v := .slice q0 sc.length cq) 45 rfl (Nat.le_of_ble_eq_true rfl) rfl rfl (by kernel_rfl) ?_
          refine WL.pure (v := .func (.func 73) #[] #[]) 46 rfl (Nat.le_of_ble_eq_true rfl) rfl rfl (by kernel_rfl) ?_
          refine WL.call (f := 74) (args := #[.slice q0 sc.length cq, .func (.func 73) #[] #[]]) 47 rfl (Nat.le_of_ble_eq_true rfl) rfl rfl (by kernel_rfl) ?_
          refine (con_side _ _ sc _ (hSc.below (HP.below hH15)) (by omega)).mono ?_
          rintro e w5 (⟨rfl, hvside, hb⟩ | ⟨rfl, hb⟩)
          ·
            refine ⟨_, rfl, ?_⟩
            have hH16 : HP Tr w _ [.cel q #[.slice (some ⟨c, 0, none⟩) n n, vI 0, vI 0, vI 0, vI 0, vI 0, vI 0] 129, .cel c (irow n (fun _ => 0)) 3] := HP.call hH15 hb
            refine WL.pure (v := .bool false) 48 rfl (Nat.le_of_ble_eq_true rfl) rfl rfl (by kernel_rfl) ?_
            refine WL.nil ?_
            refine WQ.then ?_
            refine hK12 _ _ _ ?_
            refine WC.sub (l' := [(0, vI (m : Int)), (1, .slice p P.length cp), (2, vI K), (3, .slice q0 sc.length cq), (8, .slice none 0 0), (9, .slice none 0 0), (10, vI 0), (11, vP q 0), (12, vI 0), (13, .func (.func 73) #[] #[]), (48, .bool false)]) ⟨rfl, rfl, rfl, rfl, rfl, rfl, rfl, rfl, rfl, rfl, rfl, trivial⟩ ?_
            refine WC.no rfl ?_
            refine WC.skip ?_
            refine WQ.then ?_
            refine hK11 _ _ _ ?_
            refine WC.seq fun K17 hK17 => ?_
            refine WC.seq fun K18 hK18 => ?_
            refine WC.region ?_
            refine WL.pure (v := .slice p P.length cp) 49 rfl (Nat.le_of_ble_eq_true rfl) rfl rfl (by kernel_rfl) ?_
            refine WL.pure (v := vI (P.length : Int)) 50 rfl (Nat.le_of_ble_eq_true rfl) rfl rfl (by kernel_rfl) ?_
            by_cases h51 : (40 : Int) < (P.length : Int)
            ·
              refine WL.pure (v := .bool true) 51 rfl (Nat.le_of_ble_eq_true rfl) rfl rfl (x_gtr rfl rfl rfl (dT (h51))) ?_
              refine WL.pure (v := .bool true) 52 rfl (Nat.le_of_ble_eq_true rfl) rfl rfl (by kernel_rfl) ?_
              refine WL.pass 53 rfl (Nat.le_of_ble_eq_true rfl) rfl ?_
              refine WL.pass 54 rfl (Nat.le_of_ble_eq_true rfl) rfl ?_
              refine WL.pass 55 rfl (Nat.le_of_ble_eq_true rfl) rfl ?_
              refine WL.pure (v := .bool true) 56 rfl (Nat.le_of_ble_eq_true rfl) rfl rfl (by kernel_rfl) ?_
              refine WL.nil ?_
              refine WQ.then ?_
              refine hK18 _ _ _ ?_
              refine WC.sub (l' := [(0, vI (m : Int)), (1, .slice p P.length cp), (2, vI K), (3, .slice q0 sc.length cq), (8, .slice none 0 0), (9, .slice none 0 0), (10, vI 0), (11, vP q 0), (12, vI 0), (13, .func (.func 73) #[] #[]), (48, .bool false), (56, .bool true)]) ⟨rfl, rfl, rfl, rfl, rfl, rfl, rfl, rfl, rfl, rfl, rfl, rfl, trivial⟩ ?_
              refine WC.yes rfl ?_
              refine WC.seq fun K19 hK19 => ?_
              refine WC.region ?_
              refine WL.pure (v := .slice none 0 0) 8 rfl (Nat.le_of_ble_eq_true rfl) rfl rfl (by kernel_rfl) ?_
              refine WL.pure (v := .slice none 0 0) 9 rfl (Nat.le_of_ble_eq_true rfl) rfl rfl (by kernel_rfl) ?_
              refine WL.pure (v := vI 2) 10 rfl (Nat.le_of_ble_eq_true rfl) rfl rfl (by kernel_rfl) ?_
              refine WL.nil ?_
              refine WQ.then ?_
              refine hK19 _ _ _ ?_
              refine WC.ret ?_
              refine WQ.thenRet ?_
              refine WQ.ret3 8 9 10 rfl rfl rfl rfl ?_
              exact .inl ⟨2, by decide, rfl, HP.below hH16⟩
            ·
              refine WL.pure (v := .bool false) 51 rfl (Nat.le_of_ble_eq_true rfl) rfl rfl (x_gtr rfl rfl rfl (dF (h51))) ?_
              refine WL.pure (v := .bool false) 52 rfl (Nat.le_of_ble_eq_true rfl) rfl rfl (by kernel_rfl) ?_
              refine WL.pure (v := .slice q0 sc.length cq) 53 rfl (Nat.le_of_ble_eq_true rfl) rfl rfl (by kernel_rfl) ?_
              refine WL.pure (v := vI (sc.length : Int)) 54 rfl (Nat.le_of_ble_eq_true rfl) rfl rfl (by kernel_rfl) ?_
              by_cases h55 : (300 : Int) < (sc.length : Int)
              ·
                refine WL.pure (v := .bool true) 55 rfl (Nat.le_of_ble_eq_true rfl) rfl rfl (x_gtr rfl rfl rfl (dT (h55))) ?_
                refine WL.pure (v := .bool true) 56 rfl (Nat.le_of_ble_eq_true rfl) rfl rfl (by kernel_rfl) ?_
                refine WL.nil ?_
                refine WQ.then ?_
                refine hK18 _ _ _ ?_
                refine WC.sub (l' := [(0, vI (m : Int)), (1, .slice p P.length cp), (2, vI K), (3, .slice q0 sc.length cq), (8, .slice none 0 0), (9, .slice none 0 0), (10, vI 0), (11, vP q 0), (12, vI 0), (13, .func (.func 73) #[] #[]), (48, .bool false), (56, .bool true)]) ⟨rfl, rfl, rfl, rfl, rfl, rfl, rfl, rfl, rfl, rfl, rfl, rfl, trivial⟩ ?_
                refine WC.yes rfl ?_
                refine WC.seq fun K20 hK20 => ?_
                refine WC.region ?_
                refine WL.pure (v := .slice none 0 0) 8 rfl (Nat.le_of_ble_eq_true rfl) rfl rfl (by kernel_rfl) ?_
                refine WL.pure (v := .slice none 0 0) 9 rfl (Nat.le_of_ble_eq_true rfl) rfl rfl (by kernel_rfl) ?_
                refine WL.pure (v := vI 2) 10 rfl (Nat.le_of_ble_eq_true rfl) rfl rfl (by kernel_rfl) ?_
                refine WL.nil ?_
                refine WQ.then ?_
                refine hK20 _ _ _ ?_
                refine WC.ret ?_
                refine WQ.thenRet ?_
                refine WQ.ret3 8 9 10 rfl rfl rfl rfl ?_
                exact .inl ⟨2, by decide, rfl, HP.below hH16⟩
              ·
                refine WL.pure (v := .bool false) 55 rfl (Nat.le_of_ble_eq_true rfl) rfl rfl (x_gtr rfl rfl rfl (dF (h55))) ?_
                refine WL.pure (v := .bool false) 56 rfl (Nat.le_of_ble_eq_true rfl) rfl rfl (by kernel_rfl) ?_
                refine WL.nil ?_
                refine WQ.then ?_
                refine hK18 _ _ _ ?_
                refine WC.sub (l' := [(0, vI (m : Int)), (1, .slice p P.length cp), (2, vI K), (3, .slice q0 sc.length cq), (8, .slice none 0 0), (9, .slice none 0 0), (10, vI 0), (11, vP q 0), (12, vI 0), (13, .func (.func 73) #[] #[]), (48, .bool false), (56, .bool false)]) ⟨rfl, rfl, rfl, rfl, rfl, rfl, rfl, rfl, rfl, rfl, rfl, rfl, trivial⟩ ?_
                refine WC.no rfl ?_
                refine WC.skip ?_
                refine WQ.then ?_
                refine hK17 _ _ _ ?_
                refine WC.seq fun K21 hK21 => ?_
                refine WC.seq fun K22 hK22 => ?_
                have hwdP : ∀ x ∈ P, wd x = true := fun x hx => by
                  obtain ⟨i, hi, rfl⟩ := List.mem_iff_getElem.1 hx
                  have := hvnwd i hi
                  simpa [List.getD_eq_getElem?_getD, hi] using this
                have hO1 := HP.ownNil (HP.ownNil hH16 4 1) 3 1
                have hH23 : HP Tr w _ [.own (.slice none 0 0) 0 (bL []) 4 1, .own (.slice none 0 0) 0 (iL []) 3 1, .cel q #[.slice (some ⟨c, 0, none⟩) n n, vI 0, vI 0, vI 0, vI 0, vI 0, vI 0] 129, .cel c (irow n (fun _ => 0)) 3] := HP.flip (A := [Ent.cel q #[.slice (some ⟨c, 0, none⟩) n n, vI 0, vI 0, vI 0, vI 0, vI 0, vI 0] 129, Ent.cel c (irow n (fun _ => 0)) 3]) (B := [Ent.own (.slice none 0 0) 0 (bL []) 4 1, Ent.own (.slice none 0 0) 0 (iL []) 3 1]) hO1
                refine WC.region ?_
                refine WL.pure (v := .slice q0 sc.length cq) 57 rfl (Nat.le_of_ble_eq_true rfl) rfl rfl (by kernel_rfl) ?_
                refine WL.pure (v := vI (sc.length : Int)) 58 rfl (Nat.le_of_ble_eq_true rfl) rfl rfl (by kernel_rfl) ?_
                refine WL.pure (v := vI 0) 59 rfl (Nat.le_of_ble_eq_true rfl) rfl rfl (by kernel_rfl) ?_
                refine WL.nil ?_
                refine WQ.then ?_
                refine hK22 _ _ _ ?_
                refine WC.block ?_
                refine WC.loop (fun kk0 ll0 ww0 => ∃ (i : Nat) (C : Nat → Int) (h : Nat) (t : Nat) (p : Nat) (k : Nat) (wo : Int) (tk : Int) (B : List Bool) (T : List Int) (tl : Int) (pv1 : Option Addr) (cp1 : Nat) (pv2 : Option Addr) (cp2 : Nat) (ip : Option Addr) (icap : Nat) (R : List Int), ll0 = [(1, .slice ip R.length icap), (2, vI tl), (8, .slice pv1 B.length cp1), (9, .slice pv2 T.length cp2), (11, vP q 0), (57, .slice q0 sc.length cq), (58, vI (sc.length : Int)), (59, vI (i : Int))] ∧ kk0 = sc.length - i ∧ (i ≤ sc.length) ∧ (Inv m P K (zer sc i) C h t p k wo tk B T tl) ∧ (p = 0 ∨ p = 2 ∨ p = 3) ∧ (k = 0 ∨ k = 2 ∨ k = 3) ∧ (R = P.drop (B.length + (if p = 0 then 0 else 1))) ∧ (InI w ip R) ∧ (R.length ≤ icap) ∧ HP Tr w ww0 [.own (.slice pv1 B.length cp1) B.length (bL B) 4 1, .own (.slice pv2 T.length cp2) T.length (iL T) 3 1, .cel q #[.slice (some ⟨c, 0, none⟩) n n, vI (h : Int), vI (t : Int), vI (p : Int), vI (k : Int), vI wo, vI tk] 129, .cel c (irow n C) 3]) (sc.length) [(1, .slice p P.length cp), (2, vI K), (8, .slice none 0 0), (9, .slice none 0 0), (11, vP q 0), (57, .slice q0 sc.length cq), (58, vI (sc.length : Int)), (59, vI 0)] ⟨rfl, rfl, rfl, rfl, rfl, rfl, rfl, rfl, trivial⟩ ⟨0, fun _ => 0, 0, 0, 0, 0, 0, 0, [], [], K, none, 0, none, 0, p, cp, P, rfl, rfl, Nat.zero_le _, Inv.start (by omega) (by omega) (by omega), .inl rfl, .inl rfl, by simp, hP, hPc, hH23⟩ ?_
                rintro kk l w25 ⟨i, C, h, t, p, k, wo, tk, B, T, tl, pv1, cp1, pv2, cp2, ip, icap, R, rfl, hkk, hi, hI, hp, hk, hR, hRin, hRc, hH26⟩ K24 hK24
                obtain ⟨hh, ht⟩ := hI.hn
                rw [← hn] at hh ht
                refine WC.seq fun K27 hK27 => ?_
                refine WC.region ?_
                by_cases hlt : (i : Int) < (sc.length : Int)
                ·
                  refine WL.pure (v := .bool true) 60 rfl (Nat.le_of_ble_eq_true rfl) rfl rfl (x_lss rfl rfl rfl (dT (hlt))) ?_
                  refine WL.nil ?_
                  refine WQ.then ?_
                  refine hK27 _ _ _ ?_
                  refine WC.seq fun K28 hK28 => ?_
                  refine WC.yes rfl ?_
                  refine WC.skip ?_
                  refine WQ.then ?_
                  refine hK28 _ _ _ ?_
                  refine WC.seq fun K29 hK29 => ?_
                  refine WC.block ?_
                  refine WC.seq fun K30 hK30 => ?_
                  have hlt' : i < sc.length := by omega
                  obtain ⟨gs, os, hgs, hrows⟩ := hSc (by omega)
                  subst hgs
                  refine WC.region ?_
                  refine WL.pure (v := vP gs (os + i)) 61 rfl (Nat.le_of_ble_eq_true rfl) rfl rfl (x_idx (i) (os + i) rfl rfl rfl Try.underlying58 sz3 (by omega) (by omega) (by omega)) ?_
                  refine WL.pure (v := vI (sc.getD i 0)) 62 rfl (Nat.le_of_ble_eq_true rfl) rfl rfl (x_load rfl rfl Try.underlying3 rfl ((HP.oldRange hH26 trivial (hrows i (by omega))) 0 _ rfl)) ?_
                  refine WL.pure (v := vI (sc.getD i 0)) 15 rfl (Nat.le_of_ble_eq_true rfl) rfl rfl (by kernel_rfl) ?_
                  refine WL.nil ?_
                  refine WQ.then ?_
                  refine hK30 _ _ _ ?_
                  refine WC.seq fun K31 hK31 => ?_
                  by_cases hs0 : sc.getD i 0 = 0
                  ·
                    rcases hp with rfl | rfl | rfl
                    ·
                      have hH32 : HP Tr w _ [.own (.slice pv1 B.length cp1) B.length (bL B) 4 1, .own (.slice pv2 T.length cp2) T.length (iL T) 3 1, .cel q #[.slice (some ⟨c, 0, none⟩) n n, vI (h : Int), vI (t : Int), vI 0, vI (k : Int), vI wo, vI tk] 129, .cel c (irow n C) 3] := hH26
                      refine WC.region ?_
                      refine WL.pure (v := vP q 0) 64 rfl (Nat.le_of_ble_eq_true rfl) rfl rfl (by kernel_rfl) ?_
                      refine WL.call (f := 77) (args := #[vP q 0]) 65 rfl (Nat.le_of_ble_eq_true rfl) rfl rfl (by kernel_rfl) ?_
                      refine (Busy_any q c n C h t 0 k wo tk false (decide (k ≠ 0)) _ (HP.ownB (A := [Ent.own (.slice pv1 B.length cp1) B.length (bL B) 4 1, Ent.own (.slice pv2 T.length cp2) T.length (iL T) 3 1]) hH32) hn29 hh ht rfl rfl).mono ?_
                      rintro e w4 ⟨rfl, hb4⟩
                      refine ⟨_, rfl, ?_⟩
                      have hH33 : HP Tr w _ [.own (.slice pv1 B.length cp1) B.length (bL B) 4 1, .own (.slice pv2 T.length cp2) T.length (iL T) 3 1, .cel q #[.slice (some ⟨c, 0, none⟩) n n, vI (h : Int), vI (t : Int), vI 0, vI (k : Int), vI wo, vI tk] 129, .cel c (irow n C) 3] := HP.call hH32 hb4
                      refine WL.pure (v := .tuple #[.bool false, .bool (decide (k ≠ 0))]) 63 rfl (Nat.le_of_ble_eq_true rfl) rfl rfl (by kernel_rfl) ?_
                      refine WL.pure (v := .bool false) 66 rfl (Nat.le_of_ble_eq_true rfl) rfl rfl (by kernel_rfl) ?_
                      refine WL.pure (v := .bool (decide (k ≠ 0))) 67 rfl (Nat.le_of_ble_eq_true rfl) rfl rfl (by kernel_rfl) ?_
                      refine WL.pure (v := .bool false) 16 rfl (Nat.le_of_ble_eq_true rfl) rfl rfl (by kernel_rfl) ?_
                      refine WL.pure (v := .bool (decide (k ≠ 0))) 17 rfl (Nat.le_of_ble_eq_true rfl) rfl rfl (by kernel_rfl) ?_
                      refine WL.nil ?_
                      refine WQ.then ?_
                      refine hK31 _ _ _ ?_
                      refine WC.sub (l' := [(1, .slice ip R.length icap), (2, vI tl), (8, .slice pv1 B.length cp1), (9, .slice pv2 T.length cp2), (11, vP q 0), (15, vI (sc.getD i 0)), (16, .bool false), (17, .bool (decide (k ≠ 0))), (57, .slice (some ⟨gs, os, none⟩) sc.length cq), (58, vI (sc.length : Int)), (59, vI (i : Int)), (60, .bool true)]) ⟨rfl, rfl, rfl, rfl, rfl, rfl, rfl, rfl, rfl, rfl, rfl, rfl, trivial⟩ ?_
                      refine WC.block ?_
                      refine WC.seq fun K34 hK34 => ?_
                      refine WC.region ?_
                      refine WL.pure (v := vI (sc.getD i 0)) 69 rfl (Nat.le_of_ble_eq_true rfl) rfl rfl (by kernel_rfl) ?_
                      refine WL.pure (v := .bool true) 70 rfl (Nat.le_of_ble_eq_true rfl) rfl rfl (x_eql rfl rfl rfl (dT (hs0))) ?_
                      refine WL.pure (v := .bool true) 71 rfl (Nat.le_of_ble_eq_true rfl) rfl rfl (by kernel_rfl) ?_
                      refine WL.pure (v := .bool false) 72 rfl (Nat.le_of_ble_eq_true rfl) rfl rfl (by kernel_rfl) ?_
                      refine WL.pure (v := .bool false) 73 rfl (Nat.le_of_ble_eq_true rfl) rfl rfl (by kernel_rfl) ?_
                      refine WL.pure (v := .slice ip R.length icap) 74 rfl (Nat.le_of_ble_eq_true rfl) rfl rfl (by kernel_rfl) ?_
                      refine WL.pure (v := vI (R.length : Int)) 75 rfl (Nat.le_of_ble_eq_true rfl) rfl rfl (by kernel_rfl) ?_
                      by_cases hidle : (0 : Int) < (R.length : Int)
                      ·
                        refine WL.pure (v := .bool true) 76 rfl (Nat.le_of_ble_eq_true rfl) rfl rfl (x_gtr rfl rfl rfl (dT (hidle))) ?_
                        refine WL.pure (v := .bool true) 77 rfl (Nat.le_of_ble_eq_true rfl) rfl rfl (by kernel_rfl) ?_
                        refine WL.pure (v := .bool true) 78 rfl (Nat.le_of_ble_eq_true rfl) rfl rfl (by kernel_rfl) ?_
                        refine WL.pure (v := .bool true) 68 rfl (Nat.le_of_ble_eq_true rfl) rfl rfl (by kernel_rfl) ?_
                        refine WL.nil ?_
                        refine WQ.then ?_
                        refine hK34 _ _ _ ?_
                        refine WC.sub (l' := [(1, .slice ip R.length icap), (2, vI tl), (8, .slice pv1 B.length cp1), (9, .slice pv2 T.length cp2), (11, vP q 0), (15, vI (sc.getD i 0)), (16, .bool false), (17, .bool (decide (k ≠ 0))), (57, .slice (some ⟨gs, os, none⟩) sc.length cq), (58, vI (sc.length : Int)), (59, vI (i : Int)), (60, .bool true), (68, .bool true)]) ⟨rfl, rfl, rfl, rfl, rfl, rfl, rfl, rfl, rfl, rfl, rfl, rfl, rfl, trivial⟩ ?_
                        refine WC.yes rfl ?_
                        refine WC.seq fun K35 hK35 => ?_
                        refine WC.seq fun K36 hK36 => ?_
                        refine WC.region ?_
                        refine WL.pure (v := .bool false) 79 rfl (Nat.le_of_ble_eq_true rfl) rfl rfl (by kernel_rfl) ?_
                        refine WL.pure (v := .bool true) 80 rfl (Nat.le_of_ble_eq_true rfl) rfl rfl (by kernel_rfl) ?_
                        refine WL.nil ?_
                        refine WQ.then ?_
                        refine hK36 _ _ _ ?_
                        refine WC.yes rfl ?_
                        refine WC.seq fun K37 hK37 => ?_
                        have hR0 : 0 < R.length := by omega
                        have hBP : B.length < P.length := by have := hR; rw [this] at hR0; simp at hR0; omega
                        have hy0 : R.getD 0 0 = P.getD B.length 0 := by rw [hR]; exact getD_drop0
                        have hwy : wd (R.getD 0 0) = true := by rw [hy0]; exact wd_get hwdP hBP
                        obtain ⟨gR, oR, rfl, hrowR⟩ := hRin hR0
                        refine WC.region ?_
                        refine WL.pure (v := vP q 0) 81 rfl (Nat.le_of_ble_eq_true rfl) rfl rfl (by kernel_rfl) ?_
                        refine WL.pure (v := .slice (some ⟨gR, oR, none⟩) R.length icap) 82 rfl (Nat.le_of_ble_eq_true rfl) rfl rfl (by kernel_rfl) ?_
                        refine WL.pure (v := vP gR oR) 83 rfl (Nat.le_of_ble_eq_true rfl) rfl rfl (x_idx (0) (oR) rfl rfl rfl Try.underlying58 sz3 (by omega) (by omega) (by omega)) ?_
                        refine WL.pure (v := vI (R.getD 0 0)) 84 rfl (Nat.le_of_ble_eq_true rfl) rfl rfl (x_load rfl rfl Try.underlying3 rfl ((HP.oldRange hH33 trivial (hrowR 0 (by omega))) 0 _ rfl)) ?_
                        refine WL.call (f := 78) (args := #[vP q 0, vI (R.getD 0 0)]) 85 rfl (Nat.le_of_ble_eq_true rfl) rfl rfl (by kernel_rfl) ?_
                        refine (BeginPut_any q c n C h t k wo tk (R.getD 0 0) _ (HP.ownB (A := [Ent.own (.slice pv1 B.length cp1) B.length (bL B) 4 1, Ent.own (.slice pv2 T.length cp2) T.length (iL T) 3 1]) hH33) hn29 hh ht hwy).mono ?_
                        rintro e w4 ⟨rfl, hb4⟩
                        refine ⟨_, rfl, ?_⟩
                        have hF := HP.exch (A := [Ent.own (.slice pv1 B.length cp1) B.length (bL B) 4 1, Ent.own (.slice pv2 T.length cp2) T.length (iL T) 3 1]) hH33 hb4
                        have hH38 : HP Tr w _ [.own (.slice pv1 B.length cp1) B.length (bL B) 4 1, .own (.slice pv2 T.length cp2) T.length (iL T) 3 1, .cel q #[.slice (some ⟨c, 0, none⟩) n n, vI (h : Int), vI (t : Int), vI 1, vI (k : Int), vI (R.getD 0 0), vI tk] 129, .cel c (irow n C) 3] := hF
                        refine WL.nil ?_
                        refine WQ.then ?_
                        refine hK37 _ _ _ ?_
                        refine WC.sub (l' := [(1, .slice (some ⟨gR, oR, none⟩) R.length icap), (2, vI tl), (8, .slice pv1 B.length cp1), (9, .slice pv2 T.length cp2), (11, vP q 0), (15, vI (sc.getD i 0)), (16, .bool false), (17, .bool (decide (k ≠ 0))), (57, .slice (some ⟨gs, os, none⟩) sc.length cq), (58, vI (sc.length : Int)), (59, vI (i : Int)), (60, .bool true), (68, .bool true), (80, .bool true)]) ⟨rfl, rfl, rfl, rfl, rfl, rfl, rfl, rfl, rfl, rfl, rfl, rfl, rfl, rfl, trivial⟩ ?_
                        refine WC.region ?_
                        refine WL.pure (v := .slice (some ⟨gR, oR, none⟩) R.length icap) 86 rfl (Nat.le_of_ble_eq_true rfl) rfl rfl (by kernel_rfl) ?_
                        refine WL.pure (v := .slice (rs gR oR icap) ((R.drop 1).length) (icap - 1)) 87 rfl (Nat.le_of_ble_eq_true rfl) rfl rfl (x_reslice rfl rfl rfl Try.underlying58 (by omega) (by omega) sz3 (by simp)) ?_
                        refine WL.pure (v := .slice (rs gR oR icap) ((R.drop 1).length) (icap - 1)) 1 rfl (Nat.le_of_ble_eq_true rfl) rfl rfl (by kernel_rfl) ?_
                        refine WL.nil ?_
                        refine WQ.then ?_
                        refine hK35 _ _ _ ?_
                        refine WC.seq fun K39 hK39 => ?_
                        refine WC.region ?_
                        refine WL.pure (v := vP q 0) 89 rfl (Nat.le_of_ble_eq_true rfl) rfl rfl (by kernel_rfl) ?_
                        by_cases hf : (t + 1) % n = h
                        ·
                          refine WL.call (f := 79) (args := #[vP q 0]) 90 rfl (Nat.le_of_ble_eq_true rfl) rfl rfl (by kernel_rfl) ?_
                          refine (StepPut_1f q c n C h t k (R.getD 0 0) tk _ (HP.ownB (A := [Ent.own (.slice pv1 B.length cp1) B.length (bL B) 4 1, Ent.own (.slice pv2 T.length cp2) T.length (iL T) 3 1]) hH38) hn29 hh ht hf).mono ?_
                          rintro e w4 ⟨rfl, hb4⟩
                          refine ⟨_, rfl, ?_⟩
                          have hF := HP.exch (A := [Ent.own (.slice pv1 B.length cp1) B.length (bL B) 4 1, Ent.own (.slice pv2 T.length cp2) T.length (iL T) 3 1]) hH38 hb4
                          have hH40 : HP Tr w _ [.own (.slice pv1 B.length cp1) B.length (bL B) 4 1, .own (.slice pv2 T.length cp2) T.length (iL T) 3 1, .cel q #[.slice (some ⟨c, 0, none⟩) n n, vI (h : Int), vI (t : Int), vI 0, vI (k : Int), vI (R.getD 0 0), vI tk] 129, .cel c (irow n C) 3] := hF
                          refine WL.pure (v := .tuple #[.bool true, .bool false, vI 0]) 88 rfl (Nat.le_of_ble_eq_true rfl) rfl rfl (by kernel_rfl) ?_
                          refine WL.pure (v := .bool true) 91 rfl (Nat.le_of_ble_eq_true rfl) rfl rfl (by kernel_rfl) ?_
                          refine WL.pure (v := .bool false) 92 rfl (Nat.le_of_ble_eq_true rfl) rfl rfl (by kernel_rfl) ?_
                          refine WL.pure (v := vI 0) 93 rfl (Nat.le_of_ble_eq_true rfl) rfl rfl (by kernel_rfl) ?_
                          refine WL.pure (v := .bool true) 18 rfl (Nat.le_of_ble_eq_true rfl) rfl rfl (by kernel_rfl) ?_
                          refine WL.pure (v := .bool false) 19 rfl (Nat.le_of_ble_eq_true rfl) rfl rfl (by kernel_rfl) ?_
                          refine WL.pure (v := vI 0) 20 rfl (Nat.le_of_ble_eq_true rfl) rfl rfl (by kernel_rfl) ?_
                          refine WL.nil ?_
                          refine WQ.then ?_
                          refine hK39 _ _ _ ?_
                          refine WC.sub (l' := [(1, .slice (rs gR oR icap) ((R.drop 1).length) (icap - 1)), (2, vI tl), (8, .slice pv1 B.length cp1), (9, .slice pv2 T.length cp2), (11, vP q 0), (15, vI (sc.getD i 0)), (16, .bool false), (17, .bool (decide (k ≠ 0))), (18, .bool true), (19, .bool false), (57, .slice (some ⟨gs, os, none⟩) sc.length cq), (58, vI (sc.length : Int)), (59, vI (i : Int)), (60, .bool true), (68, .bool true), (80, .bool true)]) ⟨rfl, rfl, rfl, rfl, rfl, rfl, rfl, rfl, rfl, rfl, rfl, rfl, rfl, rfl, rfl, rfl, trivial⟩ ?_
                          refine WC.seq fun K41 hK41 => ?_
                          refine WC.region ?_
                          refine WL.pure (v := .bool true) 94 rfl (Nat.le_of_ble_eq_true rfl) rfl rfl (by kernel_rfl) ?_
                          refine WL.nil ?_
                          refine WQ.then ?_
                          refine hK41 _ _ _ ?_
                          refine WC.yes rfl ?_
                          refine WC.region ?_
                          refine WL.pure (v := .slice pv1 B.length cp1) 95 rfl (Nat.le_of_ble_eq_true rfl) rfl rfl (by kernel_rfl) ?_
                          refine WL.pure (v := .bool false) 96 rfl (Nat.le_of_ble_eq_true rfl) rfl rfl (by kernel_rfl) ?_
                          refine WL.alloc (c := #[.bool false]) (T := 4) hH40 97 rfl (by decide) rfl rfl (fun b42 => vS b42 1 1) (by kernel_rfl) (fun b42 w43 hw43 => ?_)
                          have hH44 : HP Tr w w43 [.own (.slice pv1 B.length cp1) B.length (bL B) 4 1, .own (.slice pv2 T.length cp2) T.length (iL T) 3 1, .cel q #[.slice (some ⟨c, 0, none⟩) n n, vI (h : Int), vI (t : Int), vI 0, vI (k : Int), vI (R.getD 0 0), vI tk] 129, .cel c (irow n C) 3, .cel b42 #[.bool false] 4] := hw43.2
                          have nb42 := hw43.1
                          clear hw43
                          obtain ⟨i0, hi0, hz0, hz1, hz2⟩ := infoB
                          have hbl := hI.bl
                          refine WL.appendSrc (k := B.length) (m := 1) [.bool false] 0 hH44 98 rfl (by decide) rfl rfl rfl rfl Try.underlying67 hi0 hz0 hz1 hz2 rfl (by decide) rfl (.inl ⟨_, rfl, fun q u hu => by rw [ad_add]; exact HP.cell hH44 4 rfl (by simpa using hu)⟩) (by simp) (by simp [Value.oneCell']) (by unfold maxLen; omega) (by omega) ?_
                          rintro v9 w9 - hB9
                          have e9 : B.length + 1 = (B ++ [false]).length := by simp
                          have hC9 : Ent.holds w9 (.own v9 (B.length + 1) (bL B ++ [.bool false]) 4 1) := HP.get hB9 0 rfl
                          obtain ⟨pv9, cp9, rfl⟩ := own_rowG hC9
                          rw [e9] at hB9 ⊢
                          have hH45 : HP Tr w _ [.own (.slice pv9 (B ++ [false]).length cp9) (B ++ [false]).length (bL (B ++ [false])) 4 1, .own (.slice pv2 T.length cp2) T.length (iL T) 3 1, .cel q #[.slice (some ⟨c, 0, none⟩) n n, vI (h : Int), vI (t : Int), vI 0, vI (k : Int), vI (R.getD 0 0), vI tk] 129, .cel c (irow n C) 3, .cel b42 #[.bool false] 4] := HP.eq hB9 (by simp [bL])
                          have hH46 : HP Tr w _ [.own (.slice pv9 (B ++ [false]).length cp9) (B ++ [false]).length (bL (B ++ [false])) 4 1, .own (.slice pv2 T.length cp2) T.length (iL T) 3 1, .cel q #[.slice (some ⟨c, 0, none⟩) n n, vI (h : Int), vI (t : Int), vI 0, vI (k : Int), vI (R.getD 0 0), vI tk] 129, .cel c (irow n C) 3] := (HP.drop hH45 4)
                          refine WL.pure (v := .slice pv9 ((B ++ [false]).length) cp9) 8 rfl (Nat.le_of_ble_eq_true rfl) rfl rfl (by kernel_rfl) ?_
                          refine WL.nil ?_
                          refine WQ.inNormal ?_
                          refine WQ.inNormal ?_
                          refine WQ.then ?_
                          refine hK29 _ _ _ ?_
                          refine WC.region ?_
                          refine WL.pure (v := vI ((i + 1 : Nat) : Int)) 127 rfl (Nat.le_of_ble_eq_true rfl) rfl rfl (x_add (Z := ((i + 1 : Nat) : Int)) rfl rfl rfl (by omega) (by omega) (by omega)) ?_
                          refine WL.pure (v := vI ((i + 1 : Nat) : Int)) 59 rfl (Nat.le_of_ble_eq_true rfl) rfl rfl (by kernel_rfl) ?_
                          refine WL.nil ?_
                          refine WQ.sub (l' := [(1, .slice (rs gR oR icap) ((R.drop 1).length) (icap - 1)), (2, vI (tl)), (8, .slice pv9 ((B ++ [false]).length) cp9), (9, .slice pv2 T.length cp2), (11, vP q 0), (57, .slice (some ⟨gs, os, none⟩) sc.length cq), (58, vI (sc.length : Int)), (59, vI ((i + 1 : Nat) : Int))]) ⟨rfl, rfl, rfl, rfl, rfl, rfl, rfl, rfl, trivial⟩ ?_
                          refine WQ.then (hK24 _ _ _ (by omega) ⟨i + 1, C, h, t, 0, k, (R.getD 0 0), tk, (B ++ [false]), T, (tl), pv9, cp9, pv2, cp2, (rs gR oR icap), (icap - 1), (R.drop 1), rfl, rfl, by omega, by rw [zer_s hs0]; rw [hy0]; exact hI.wFull hBP (by rw [← hn]; exact hf), .inl rfl, hk, by rw [hR]; simp, InI.drop1 hrowR hRc, by rw [List.length_drop]; omega, hH46⟩)
                        ·
                          refine WL.call (f := 79) (args := #[vP q 0]) 90 rfl (Nat.le_of_ble_eq_true rfl) rfl rfl (by kernel_rfl) ?_
                          refine (StepPut_1r q c n C h t k (R.getD 0 0) tk ((t + 1) % n) _ (HP.ownB (A := [Ent.own (.slice pv1 B.length cp1) B.length (bL B) 4 1, Ent.own (.slice pv2 T.length cp2) T.length (iL T) 3 1]) hH38) hn29 hh ht rfl hf).mono ?_
                          rintro e w4 ⟨rfl, hb4⟩
                          refine ⟨_, rfl, ?_⟩
                          have hF := HP.exch (A := [Ent.own (.slice pv1 B.length cp1) B.length (bL B) 4 1, Ent.own (.slice pv2 T.length cp2) T.length (iL T) 3 1]) hH38 hb4
                          have hH47 : HP Tr w _ [.own (.slice pv1 B.length cp1) B.length (bL B) 4 1, .own (.slice pv2 T.length cp2) T.length (iL T) 3 1, .cel q #[.slice (some ⟨c, 0, none⟩) n n, vI (h : Int), vI (t : Int), vI 2, vI (k : Int), vI (R.getD 0 0), vI tk] 129, .cel c (irow n C) 3] := hF
                          refine WL.pure (v := .tuple #[.bool false, .bool false, vI 0]) 88 rfl (Nat.le_of_ble_eq_true rfl) rfl rfl (by kernel_rfl) ?_
                          refine WL.pure (v := .bool false) 91 rfl (Nat.le_of_ble_eq_true rfl) rfl rfl (by kernel_rfl) ?_
                          refine WL.pure (v := .bool false) 92 rfl (Nat.le_of_ble_eq_true rfl) rfl rfl (by kernel_rfl) ?_
                          refine WL.pure (v := vI 0) 93 rfl (Nat.le_of_ble_eq_true rfl) rfl rfl (by kernel_rfl) ?_
                          refine WL.pure (v := .bool false) 18 rfl (Nat.le_of_ble_eq_true rfl) rfl rfl (by kernel_rfl) ?_
                          refine WL.pure (v := .bool false) 19 rfl (Nat.le_of_ble_eq_true rfl) rfl rfl (by kernel_rfl) ?_
                          refine WL.pure (v := vI 0) 20 rfl (Nat.le_of_ble_eq_true rfl) rfl rfl (by kernel_rfl) ?_
                          refine WL.nil ?_
                          refine WQ.then ?_
                          refine hK39 _ _ _ ?_
                          refine WC.sub (l' := [(1, .slice (rs gR oR icap) ((R.drop 1).length) (icap - 1)), (2, vI tl), (8, .slice pv1 B.length cp1), (9, .slice pv2 T.length cp2), (11, vP q 0), (15, vI (sc.getD i 0)), (16, .bool false), (17, .bool (decide (k ≠ 0))), (18, .bool false), (19, .bool false), (57, .slice (some ⟨gs, os, none⟩) sc.length cq), (58, vI (sc.length : Int)), (59, vI (i : Int)), (60, .bool true), (68, .bool true), (80, .bool true)]) ⟨rfl, rfl, rfl, rfl, rfl, rfl, rfl, rfl, rfl, rfl, rfl, rfl, rfl, rfl, rfl, rfl, trivial⟩ ?_
                          refine WC.seq fun K48 hK48 => ?_
                          refine WC.region ?_
                          refine WL.pure (v := .bool false) 94 rfl (Nat.le_of_ble_eq_true rfl) rfl rfl (by kernel_rfl) ?_
                          refine WL.nil ?_
                          refine WQ.then ?_
                          refine hK48 _ _ _ ?_
                          refine WC.no rfl ?_
                          refine WC.skip ?_
                          refine WQ.inNormal ?_
                          refine WQ.inNormal ?_
                          refine WQ.then ?_
                          refine hK29 _ _ _ ?_
                          refine WC.region ?_
                          refine WL.pure (v := vI ((i + 1 : Nat) : Int)) 127 rfl (Nat.le_of_ble_eq_true rfl) rfl rfl (x_add (Z := ((i + 1 : Nat) : Int)) rfl rfl rfl (by omega) (by omega) (by omega)) ?_
                          refine WL.pure (v := vI ((i + 1 : Nat) : Int)) 59 rfl (Nat.le_of_ble_eq_true rfl) rfl rfl (by kernel_rfl) ?_
                          refine WL.nil ?_
                          refine WQ.sub (l' := [(1, .slice (rs gR oR icap) ((R.drop 1).length) (icap - 1)), (2, vI (tl)), (8, .slice pv1 B.length cp1), (9, .slice pv2 T.length cp2), (11, vP q 0), (57, .slice (some ⟨gs, os, none⟩) sc.length cq), (58, vI (sc.length : Int)), (59, vI ((i + 1 : Nat) : Int))]) ⟨rfl, rfl, rfl, rfl, rfl, rfl, rfl, rfl, trivial⟩ ?_
                          refine WQ.then (hK24 _ _ _ (by omega) ⟨i + 1, C, h, t, 2, k, (R.getD 0 0), tk, B, T, (tl), pv1, cp1, pv2, cp2, (rs gR oR icap), (icap - 1), (R.drop 1), rfl, rfl, by omega, by rw [zer_s hs0]; rw [hy0]; exact hI.wRoom hBP (by rw [← hn]; exact hf), .inr (.inl rfl), hk, by rw [hR]; simp, InI.drop1 hrowR hRc, by rw [List.length_drop]; omega, hH47⟩)
                      ·
                        refine WL.pure (v := .bool false) 76 rfl (Nat.le_of_ble_eq_true rfl) rfl rfl (x_gtr rfl rfl rfl (dF (hidle))) ?_
                        refine WL.pure (v := .bool false) 77 rfl (Nat.le_of_ble_eq_true rfl) rfl rfl (by kernel_rfl) ?_
                        refine WL.pure (v := .bool false) 78 rfl (Nat.le_of_ble_eq_true rfl) rfl rfl (by kernel_rfl) ?_
                        refine WL.pure (v := .bool false) 68 rfl (Nat.le_of_ble_eq_true rfl) rfl rfl (by kernel_rfl) ?_
                        refine WL.nil ?_
                        refine WQ.then ?_
                        refine hK34 _ _ _ ?_
                        refine WC.sub (l' := [(1, .slice ip R.length icap), (2, vI tl), (8, .slice pv1 B.length cp1), (9, .slice pv2 T.length cp2), (11, vP q 0), (15, vI (sc.getD i 0)), (16, .bool false), (17, .bool (decide (k ≠ 0))), (57, .slice (some ⟨gs, os, none⟩) sc.length cq), (58, vI (sc.length : Int)), (59, vI (i : Int)), (60, .bool true), (68, .bool false)]) ⟨rfl, rfl, rfl, rfl, rfl, rfl, rfl, rfl, rfl, rfl, rfl, rfl, rfl, trivial⟩ ?_
                        refine WC.no rfl ?_
                        refine WC.seq fun K49 hK49 => ?_
                        refine WC.region ?_
                        refine WL.pure (v := vI (sc.getD i 0)) 100 rfl (Nat.le_of_ble_eq_true rfl) rfl rfl (by kernel_rfl) ?_
                        refine WL.pure (v := .bool false) 101 rfl (Nat.le_of_ble_eq_true rfl) rfl rfl (x_eql rfl rfl rfl (dF (by omega))) ?_
                        refine WL.pure (v := .bool false) 102 rfl (Nat.le_of_ble_eq_true rfl) rfl rfl (by kernel_rfl) ?_
                        refine WL.pass 103 rfl (Nat.le_of_ble_eq_true rfl) rfl ?_
                        refine WL.pass 104 rfl (Nat.le_of_ble_eq_true rfl) rfl ?_
                        refine WL.pass 105 rfl (Nat.le_of_ble_eq_true rfl) rfl ?_
                        refine WL.pass 106 rfl (Nat.le_of_ble_eq_true rfl) rfl ?_
                        refine WL.pass 107 rfl (Nat.le_of_ble_eq_true rfl) rfl ?_
                        refine WL.pure (v := .bool false) 108 rfl (Nat.le_of_ble_eq_true rfl) rfl rfl (by kernel_rfl) ?_
                        refine WL.pure (v := .bool false) 99 rfl (Nat.le_of_ble_eq_true rfl) rfl rfl (by kernel_rfl) ?_
                        refine WL.nil ?_
                        refine WQ.then ?_
                        refine hK49 _ _ _ ?_
                        refine WC.sub (l' := [(1, .slice ip R.length icap), (2, vI tl), (8, .slice pv1 B.length cp1), (9, .slice pv2 T.length cp2), (11, vP q 0), (15, vI (sc.getD i 0)), (16, .bool false), (17, .bool (decide (k ≠ 0))), (57, .slice (some ⟨gs, os, none⟩) sc.length cq), (58, vI (sc.length : Int)), (59, vI (i : Int)), (60, .bool true), (68, .bool false), (99, .bool false)]) ⟨rfl, rfl, rfl, rfl, rfl, rfl, rfl, rfl, rfl, rfl, rfl, rfl, rfl, rfl, trivial⟩ ?_
                        refine WC.no rfl ?_
                        refine WC.skip ?_
                        refine WQ.inNormal ?_
                        refine WQ.inNormal ?_
                        refine WQ.then ?_
                        refine hK29 _ _ _ ?_
                        refine WC.region ?_
                        refine WL.pure (v := vI ((i + 1 : Nat) : Int)) 127 rfl (Nat.le_of_ble_eq_true rfl) rfl rfl (x_add (Z := ((i + 1 : Nat) : Int)) rfl rfl rfl (by omega) (by omega) (by omega)) ?_
                        refine WL.pure (v := vI ((i + 1 : Nat) : Int)) 59 rfl (Nat.le_of_ble_eq_true rfl) rfl rfl (by kernel_rfl) ?_
                        refine WL.nil ?_
                        refine WQ.sub (l' := [(1, .slice ip R.length icap), (2, vI (tl)), (8, .slice pv1 B.length cp1), (9, .slice pv2 T.length cp2), (11, vP q 0), (57, .slice (some ⟨gs, os, none⟩) sc.length cq), (58, vI (sc.length : Int)), (59, vI ((i + 1 : Nat) : Int))]) ⟨rfl, rfl, rfl, rfl, rfl, rfl, rfl, rfl, trivial⟩ ?_
                        refine WQ.then (hK24 _ _ _ (by omega) ⟨i + 1, C, h, t, 0, k, wo, tk, B, T, (tl), pv1, cp1, pv2, cp2, ip, icap, R, rfl, rfl, by omega, by rw [zer_s hs0]; exact (hI.wIdle (by intro hlt; rw [hR] at hidle; simp at hidle; omega)), .inl rfl, hk, hR, hRin, hRc, hH33⟩)
                    ·
                      have hH50 : HP Tr w _ [.own (.slice pv1 B.length cp1) B.length (bL B) 4 1, .own (.slice pv2 T.length cp2) T.length (iL T) 3 1, .cel q #[.slice (some ⟨c, 0, none⟩) n n, vI (h : Int), vI (t : Int), vI 2, vI (k : Int), vI wo, vI tk] 129, .cel c (irow n C) 3] := hH26
                      refine WC.region ?_
                      refine WL.pure (v := vP q 0) 64 rfl (Nat.le_of_ble_eq_true rfl) rfl rfl (by kernel_rfl) ?_
                      refine WL.call (f := 77) (args := #[vP q 0]) 65 rfl (Nat.le_of_ble_eq_true rfl) rfl rfl (by kernel_rfl) ?_
                      refine (Busy_any q c n C h t 2 k wo tk true (decide (k ≠ 0)) _ (HP.ownB (A := [Ent.own (.slice pv1 B.length cp1) B.length (bL B) 4 1, Ent.own (.slice pv2 T.length cp2) T.length (iL T) 3 1]) hH50) hn29 hh ht rfl rfl).mono ?_
                      rintro e w4 ⟨rfl, hb4⟩
                      refine ⟨_, rfl, ?_⟩
                      have hH51 : HP Tr w _ [.own (.slice pv1 B.length cp1) B.length (bL B) 4 1, .own (.slice pv2 T.length cp2) T.length (iL T) 3 1, .cel q #[.slice (some ⟨c, 0, none⟩) n n, vI (h : Int), vI (t : Int), vI 2, vI (k : Int), vI wo, vI tk] 129, .cel c (irow n C) 3] := HP.call hH50 hb4
                      refine WL.pure (v := .tuple #[.bool true, .bool (decide (k ≠ 0))]) 63 rfl (Nat.le_of_ble_eq_true rfl) rfl rfl (by kernel_rfl) ?_
                      refine WL.pure (v := .bool true) 66 rfl (Nat.le_of_ble_eq_true rfl) rfl rfl (by kernel_rfl) ?_
                      refine WL.pure (v := .bool (decide (k ≠ 0))) 67 rfl (Nat.le_of_ble_eq_true rfl) rfl rfl (by kernel_rfl) ?_
                      refine WL.pure (v := .bool true) 16 rfl (Nat.le_of_ble_eq_true rfl) rfl rfl (by kernel_rfl) ?_
                      refine WL.pure (v := .bool (decide (k ≠ 0))) 17 rfl (Nat.le_of_ble_eq_true rfl) rfl rfl (by kernel_rfl) ?_
                      refine WL.nil ?_
                      refine WQ.then ?_
                      refine hK31 _ _ _ ?_
                      refine WC.sub (l' := [(1, .slice ip R.length icap), (2, vI tl), (8, .slice pv1 B.length cp1), (9, .slice pv2 T.length cp2), (11, vP q 0), (15, vI (sc.getD i 0)), (16, .bool true), (17, .bool (decide (k ≠ 0))), (57, .slice (some ⟨gs, os, none⟩) sc.length cq), (58, vI (sc.length : Int)), (59, vI (i : Int)), (60, .bool true)]) ⟨rfl, rfl, rfl, rfl, rfl, rfl, rfl, rfl, rfl, rfl, rfl, rfl, trivial⟩ ?_
                      refine WC.block ?_
                      refine WC.seq fun K52 hK52 => ?_
                      refine WC.region ?_
                      refine WL.pure (v := vI (sc.getD i 0)) 69 rfl (Nat.le_of_ble_eq_true rfl) rfl rfl (by kernel_rfl) ?_
                      refine WL.pure (v := .bool true) 70 rfl (Nat.le_of_ble_eq_true rfl) rfl rfl (x_eql rfl rfl rfl (dT (hs0))) ?_
                      refine WL.pure (v := .bool true) 71 rfl (Nat.le_of_ble_eq_true rfl) rfl rfl (by kernel_rfl) ?_
                      refine WL.pure (v := .bool true) 72 rfl (Nat.le_of_ble_eq_true rfl) rfl rfl (by kernel_rfl) ?_
                      refine WL.pure (v := .bool true) 73 rfl (Nat.le_of_ble_eq_true rfl) rfl rfl (by kernel_rfl) ?_
                      refine WL.pass 74 rfl (Nat.le_of_ble_eq_true rfl) rfl ?_
                      refine WL.pass 75 rfl (Nat.le_of_ble_eq_true rfl) rfl ?_
                      refine WL.pass 76 rfl (Nat.le_of_ble_eq_true rfl) rfl ?_
                      refine WL.pure (v := .bool true) 77 rfl (Nat.le_of_ble_eq_true rfl) rfl rfl (by kernel_rfl) ?_
                      refine WL.pure (v := .bool true) 78 rfl (Nat.le_of_ble_eq_true rfl) rfl rfl (by kernel_rfl) ?_
                      refine WL.pure (v := .bool true) 68 rfl (Nat.le_of_ble_eq_true rfl) rfl rfl (by kernel_rfl) ?_
                      refine WL.nil ?_
                      refine WQ.then ?_
                      refine hK52 _ _ _ ?_
                      refine WC.sub (l' := [(1, .slice ip R.length icap), (2, vI tl), (8, .slice pv1 B.length cp1), (9, .slice pv2 T.length cp2), (11, vP q 0), (15, vI (sc.getD i 0)), (16, .bool true), (17, .bool (decide (k ≠ 0))), (57, .slice (some ⟨gs, os, none⟩) sc.length cq), (58, vI (sc.length : Int)), (59, vI (i : Int)), (60, .bool true), (68, .bool true)]) ⟨rfl, rfl, rfl, rfl, rfl, rfl, rfl, rfl, rfl, rfl, rfl, rfl, rfl, trivial⟩ ?_
                      refine WC.yes rfl ?_
                      refine WC.seq fun K53 hK53 => ?_
                      refine WC.seq fun K54 hK54 => ?_
                      refine WC.region ?_
                      refine WL.pure (v := .bool true) 79 rfl (Nat.le_of_ble_eq_true rfl) rfl rfl (by kernel_rfl) ?_
                      refine WL.pure (v := .bool false) 80 rfl (Nat.le_of_ble_eq_true rfl) rfl rfl (by kernel_rfl) ?_
                      refine WL.nil ?_
                      refine WQ.then ?_
                      refine hK54 _ _ _ ?_
                      refine WC.no rfl ?_
                      refine WC.skip ?_
                      refine WQ.then ?_
                      refine hK53 _ _ _ ?_
                      refine WC.seq fun K55 hK55 => ?_
                      refine WC.region ?_
                      refine WL.pure (v := vP q 0) 89 rfl (Nat.le_of_ble_eq_true rfl) rfl rfl (by kernel_rfl) ?_
                      refine WL.call (f := 79) (args := #[vP q 0]) 90 rfl (Nat.le_of_ble_eq_true rfl) rfl rfl (by kernel_rfl) ?_
                      refine (StepPut_2 q c n C h t k wo tk _ (HP.ownB (A := [Ent.own (.slice pv1 B.length cp1) B.length (bL B) 4 1, Ent.own (.slice pv2 T.length cp2) T.length (iL T) 3 1]) hH51) hn29 hh ht).mono ?_
                      rintro e w4 ⟨rfl, hb4⟩
                      refine ⟨_, rfl, ?_⟩
                      have hF := HP.exch (A := [Ent.own (.slice pv1 B.length cp1) B.length (bL B) 4 1, Ent.own (.slice pv2 T.length cp2) T.length (iL T) 3 1]) hH51 hb4
                      have hH56 : HP Tr w _ [.own (.slice pv1 B.length cp1) B.length (bL B) 4 1, .own (.slice pv2 T.length cp2) T.length (iL T) 3 1, .cel q #[.slice (some ⟨c, 0, none⟩) n n, vI (h : Int), vI (t : Int), vI 3, vI (k : Int), vI wo, vI tk] 129, .cel c (irow n (upI C t wo)) 3] := hF
                      refine WL.pure (v := .tuple #[.bool false, .bool false, vI 0]) 88 rfl (Nat.le_of_ble_eq_true rfl) rfl rfl (by kernel_rfl) ?_
                      refine WL.pure (v := .bool false) 91 rfl (Nat.le_of_ble_eq_true rfl) rfl rfl (by kernel_rfl) ?_
                      refine WL.pure (v := .bool false) 92 rfl (Nat.le_of_ble_eq_true rfl) rfl rfl (by kernel_rfl) ?_
                      refine WL.pure (v := vI 0) 93 rfl (Nat.le_of_ble_eq_true rfl) rfl rfl (by kernel_rfl) ?_
                      refine WL.pure (v := .bool false) 18 rfl (Nat.le_of_ble_eq_true rfl) rfl rfl (by kernel_rfl) ?_
                      refine WL.pure (v := .bool false) 19 rfl (Nat.le_of_ble_eq_true rfl) rfl rfl (by kernel_rfl) ?_
                      refine WL.pure (v := vI 0) 20 rfl (Nat.le_of_ble_eq_true rfl) rfl rfl (by kernel_rfl) ?_
                      refine WL.nil ?_
                      refine WQ.then ?_
                      refine hK55 _ _ _ ?_
                      refine WC.sub (l' := [(1, .slice ip R.length icap), (2, vI tl), (8, .slice pv1 B.length cp1), (9, .slice pv2 T.length cp2), (11, vP q 0), (15, vI (sc.getD i 0)), (16, .bool true), (17, .bool (decide (k ≠ 0))), (18, .bool false), (19, .bool false), (57, .slice (some ⟨gs, os, none⟩) sc.length cq), (58, vI (sc.length : Int)), (59, vI (i : Int)), (60, .bool true), (68, .bool true), (80, .bool false)]) ⟨rfl, rfl, rfl, rfl, rfl, rfl, rfl, rfl, rfl, rfl, rfl, rfl, rfl, rfl, rfl, rfl, trivial⟩ ?_
                      refine WC.seq fun K57 hK57 => ?_
                      refine WC.region ?_
                      refine WL.pure (v := .bool false) 94 rfl (Nat.le_of_ble_eq_true rfl) rfl rfl (by kernel_rfl) ?_
                      refine WL.nil ?_
                      refine WQ.then ?_
                      refine hK57 _ _ _ ?_
                      refine WC.no rfl ?_
                      refine WC.skip ?_
                      refine WQ.inNormal ?_
                      refine WQ.inNormal ?_
                      refine WQ.then ?_
                      refine hK29 _ _ _ ?_
                      refine WC.region ?_
                      refine WL.pure (v := vI ((i + 1 : Nat) : Int)) 127 rfl (Nat.le_of_ble_eq_true rfl) rfl rfl (x_add (Z := ((i + 1 : Nat) : Int)) rfl rfl rfl (by omega) (by omega) (by omega)) ?_
                      refine WL.pure (v := vI ((i + 1 : Nat) : Int)) 59 rfl (Nat.le_of_ble_eq_true rfl) rfl rfl (by kernel_rfl) ?_
                      refine WL.nil ?_
                      refine WQ.sub (l' := [(1, .slice ip R.length icap), (2, vI (tl)), (8, .slice pv1 B.length cp1), (9, .slice pv2 T.length cp2), (11, vP q 0), (57, .slice (some ⟨gs, os, none⟩) sc.length cq), (58, vI (sc.length : Int)), (59, vI ((i + 1 : Nat) : Int))]) ⟨rfl, rfl, rfl, rfl, rfl, rfl, rfl, rfl, trivial⟩ ?_
                      refine WQ.then (hK24 _ _ _ (by omega) ⟨i + 1, (upI C t wo), h, t, 3, k, wo, tk, B, T, (tl), pv1, cp1, pv2, cp2, ip, icap, R, rfl, rfl, by omega, by rw [zer_s hs0]; exact (hI.wMove), .inr (.inr rfl), hk, hR, hRin, hRc, hH56⟩)
                    ·
                      have hH58 : HP Tr w _ [.own (.slice pv1 B.length cp1) B.length (bL B) 4 1, .own (.slice pv2 T.length cp2) T.length (iL T) 3 1, .cel q #[.slice (some ⟨c, 0, none⟩) n n, vI (h : Int), vI (t : Int), vI 3, vI (k : Int), vI wo, vI tk] 129, .cel c (irow n C) 3] := hH26
                      refine WC.region ?_
                      refine WL.pure (v := vP q 0) 64 rfl (Nat.le_of_ble_eq_true rfl) rfl rfl (by kernel_rfl) ?_
                      refine WL.call (f := 77) (args := #[vP q 0]) 65 rfl (Nat.le_of_ble_eq_true rfl) rfl rfl (by kernel_rfl) ?_
                      refine (Busy_any q c n C h t 3 k wo tk true (decide (k ≠ 0)) _ (HP.ownB (A := [Ent.own (.slice pv1 B.length cp1) B.length (bL B) 4 1, Ent.own (.slice pv2 T.length cp2) T.length (iL T) 3 1]) hH58) hn29 hh ht rfl rfl).mono ?_
                      rintro e w4 ⟨rfl, hb4⟩
                      refine ⟨_, rfl, ?_⟩
                      have hH59 : HP Tr w _ [.own (.slice pv1 B.length cp1) B.length (bL B) 4 1, .own (.slice pv2 T.length cp2) T.length (iL T) 3 1, .cel q #[.slice (some ⟨c, 0, none⟩) n n, vI (h : Int), vI (t : Int), vI 3, vI (k : Int), vI wo, vI tk] 129, .cel c (irow n C) 3] := HP.call hH58 hb4
                      refine WL.pure (v := .tuple #[.bool true, .bool (decide (k ≠ 0))]) 63 rfl (Nat.le_of_ble_eq_true rfl) rfl rfl (by kernel_rfl) ?_
                      refine WL.pure (v := .bool true) 66 rfl (Nat.le_of_ble_eq_true rfl) rfl rfl (by kernel_rfl) ?_
                      refine WL.pure (v := .bool (decide (k ≠ 0))) 67 rfl (Nat.le_of_ble_eq_true rfl) rfl rfl (by kernel_rfl) ?_
                      refine WL.pure (v := .bool true) 16 rfl (Nat.le_of_ble_eq_true rfl) rfl rfl (by kernel_rfl) ?_
                      refine WL.pure (v := .bool (decide (k ≠ 0))) 17 rfl (Nat.le_of_ble_eq_true rfl) rfl rfl (by kernel_rfl) ?_
                      refine WL.nil ?_
                      refine WQ.then ?_
                      refine hK31 _ _ _ ?_
                      refine WC.sub (l' := [(1, .slice ip R.length icap), (2, vI tl), (8, .slice pv1 B.length cp1), (9, .slice pv2 T.length cp2), (11, vP q 0), (15, vI (sc.getD i 0)), (16, .bool true), (17, .bool (decide (k ≠ 0))), (57, .slice (some ⟨gs, os, none⟩) sc.length cq), (58, vI (sc.length : Int)), (59, vI (i : Int)), (60, .bool true)]) ⟨rfl, rfl, rfl, rfl, rfl, rfl, rfl, rfl, rfl, rfl, rfl, rfl, trivial⟩ ?_
                      refine WC.block ?_
                      refine WC.seq fun K60 hK60 => ?_
                      refine WC.region ?_
                      refine WL.pure (v := vI (sc.getD i 0)) 69 rfl (Nat.le_of_ble_eq_true rfl) rfl rfl (by kernel_rfl) ?_
                      refine WL.pure (v := .bool true) 70 rfl (Nat.le_of_ble_eq_true rfl) rfl rfl (x_eql rfl rfl rfl (dT (hs0))) ?_
                      refine WL.pure (v := .bool true) 71 rfl (Nat.le_of_ble_eq_true rfl) rfl rfl (by kernel_rfl) ?_
                      refine WL.pure (v := .bool true) 72 rfl (Nat.le_of_ble_eq_true rfl) rfl rfl (by kernel_rfl) ?_
                      refine WL.pure (v := .bool true) 73 rfl (Nat.le_of_ble_eq_true rfl) rfl rfl (by kernel_rfl) ?_
                      refine WL.pass 74 rfl (Nat.le_of_ble_eq_true rfl) rfl ?_
                      refine WL.pass 75 rfl (Nat.le_of_ble_eq_true rfl) rfl ?_
                      refine WL.pass 76 rfl (Nat.le_of_ble_eq_true rfl) rfl ?_
                      refine WL.pure (v := .bool true) 77 rfl (Nat.le_of_ble_eq_true rfl) rfl rfl (by kernel_rfl) ?_
                      refine WL.pure (v := .bool true) 78 rfl (Nat.le_of_ble_eq_true rfl) rfl rfl (by kernel_rfl) ?_
                      refine WL.pure (v := .bool true) 68 rfl (Nat.le_of_ble_eq_true rfl) rfl rfl (by kernel_rfl) ?_
                      refine WL.nil ?_
                      refine WQ.then ?_
                      refine hK60 _ _ _ ?_
                      refine WC.sub (l' := [(1, .slice ip R.length icap), (2, vI tl), (8, .slice pv1 B.length cp1), (9, .slice pv2 T.length cp2), (11, vP q 0), (15, vI (sc.getD i 0)), (16, .bool true), (17, .bool (decide (k ≠ 0))), (57, .slice (some ⟨gs, os, none⟩) sc.length cq), (58, vI (sc.length : Int)), (59, vI (i : Int)), (60, .bool true), (68, .bool true)]) ⟨rfl, rfl, rfl, rfl, rfl, rfl, rfl, rfl, rfl, rfl, rfl, rfl, rfl, trivial⟩ ?_
                      refine WC.yes rfl ?_
                      refine WC.seq fun K61 hK61 => ?_
                      refine WC.seq fun K62 hK62 => ?_
                      refine WC.region ?_
                      refine WL.pure (v := .bool true) 79 rfl (Nat.le_of_ble_eq_true rfl) rfl rfl (by kernel_rfl) ?_
                      refine WL.pure (v := .bool false) 80 rfl (Nat.le_of_ble_eq_true rfl) rfl rfl (by kernel_rfl) ?_
                      refine WL.nil ?_
                      refine WQ.then ?_
                      refine hK62 _ _ _ ?_
                      refine WC.no rfl ?_
                      refine WC.skip ?_
                      refine WQ.then ?_
                      refine hK61 _ _ _ ?_
                      refine WC.seq fun K63 hK63 => ?_
                      refine WC.region ?_
                      refine WL.pure (v := vP q 0) 89 rfl (Nat.le_of_ble_eq_true rfl) rfl rfl (by kernel_rfl) ?_
                      refine WL.call (f := 79) (args := #[vP q 0]) 90 rfl (Nat.le_of_ble_eq_true rfl) rfl rfl (by kernel_rfl) ?_
                      refine (StepPut_3 q c n C h t k wo tk ((t + 1) % n) _ (HP.ownB (A := [Ent.own (.slice pv1 B.length cp1) B.length (bL B) 4 1, Ent.own (.slice pv2 T.length cp2) T.length (iL T) 3 1]) hH59) hn29 hh ht rfl).mono ?_
                      rintro e w4 ⟨rfl, hb4⟩
                      refine ⟨_, rfl, ?_⟩
                      have hF := HP.exch (A := [Ent.own (.slice pv1 B.length cp1) B.length (bL B) 4 1, Ent.own (.slice pv2 T.length cp2) T.length (iL T) 3 1]) hH59 hb4
                      have hH64 : HP Tr w _ [.own (.slice pv1 B.length cp1) B.length (bL B) 4 1, .own (.slice pv2 T.length cp2) T.length (iL T) 3 1, .cel q #[.slice (some ⟨c, 0, none⟩) n n, vI (h : Int), vI (((t + 1) % n : Nat) : Int), vI 0, vI (k : Int), vI wo, vI tk] 129, .cel c (irow n C) 3] := hF
                      refine WL.pure (v := .tuple #[.bool true, .bool true, vI 0]) 88 rfl (Nat.le_of_ble_eq_true rfl) rfl rfl (by kernel_rfl) ?_
                      refine WL.pure (v := .bool true) 91 rfl (Nat.le_of_ble_eq_true rfl) rfl rfl (by kernel_rfl) ?_
                      refine WL.pure (v := .bool true) 92 rfl (Nat.le_of_ble_eq_true rfl) rfl rfl (by kernel_rfl) ?_
                      refine WL.pure (v := vI 0) 93 rfl (Nat.le_of_ble_eq_true rfl) rfl rfl (by kernel_rfl) ?_
                      refine WL.pure (v := .bool true) 18 rfl (Nat.le_of_ble_eq_true rfl) rfl rfl (by kernel_rfl) ?_
                      refine WL.pure (v := .bool true) 19 rfl (Nat.le_of_ble_eq_true rfl) rfl rfl (by kernel_rfl) ?_
                      refine WL.pure (v := vI 0) 20 rfl (Nat.le_of_ble_eq_true rfl) rfl rfl (by kernel_rfl) ?_
                      refine WL.nil ?_
                      refine WQ.then ?_
                      refine hK63 _ _ _ ?_
                      refine WC.sub (l' := [(1, .slice ip R.length icap), (2, vI tl), (8, .slice pv1 B.length cp1), (9, .slice pv2 T.length cp2), (11, vP q 0), (15, vI (sc.getD i 0)), (16, .bool true), (17, .bool (decide (k ≠ 0))), (18, .bool true), (19, .bool true), (57, .slice (some ⟨gs, os, none⟩) sc.length cq), (58, vI (sc.length : Int)), (59, vI (i : Int)), (60, .bool true), (68, .bool true), (80, .bool false)]) ⟨rfl, rfl, rfl, rfl, rfl, rfl, rfl, rfl, rfl, rfl, rfl, rfl, rfl, rfl, rfl, rfl, trivial⟩ ?_
                      refine WC.seq fun K65 hK65 => ?_
                      refine WC.region ?_
                      refine WL.pure (v := .bool true) 94 rfl (Nat.le_of_ble_eq_true rfl) rfl rfl (by kernel_rfl) ?_
                      refine WL.nil ?_
                      refine WQ.then ?_
                      refine hK65 _ _ _ ?_
                      refine WC.yes rfl ?_
                      refine WC.region ?_
                      refine WL.pure (v := .slice pv1 B.length cp1) 95 rfl (Nat.le_of_ble_eq_true rfl) rfl rfl (by kernel_rfl) ?_
                      refine WL.pure (v := .bool true) 96 rfl (Nat.le_of_ble_eq_true rfl) rfl rfl (by kernel_rfl) ?_
                      refine WL.alloc (c := #[.bool true]) (T := 4) hH64 97 rfl (by decide) rfl rfl (fun b66 => vS b66 1 1) (by kernel_rfl) (fun b66 w67 hw67 => ?_)
                      have hH68 : HP Tr w w67 [.own (.slice pv1 B.length cp1) B.length (bL B) 4 1, .own (.slice pv2 T.length cp2) T.length (iL T) 3 1, .cel q #[.slice (some ⟨c, 0, none⟩) n n, vI (h : Int), vI (((t + 1) % n : Nat) : Int), vI 0, vI (k : Int), vI wo, vI tk] 129, .cel c (irow n C) 3, .cel b66 #[.bool true] 4] := hw67.2
                      have nb66 := hw67.1
                      clear hw67
                      obtain ⟨i0, hi0, hz0, hz1, hz2⟩ := infoB
                      have hbl := hI.bl
                      refine WL.appendSrc (k := B.length) (m := 1) [.bool true] 0 hH68 98 rfl (by decide) rfl rfl rfl rfl Try.underlying67 hi0 hz0 hz1 hz2 rfl (by decide) rfl (.inl ⟨_, rfl, fun q u hu => by rw [ad_add]; exact HP.cell hH68 4 rfl (by simpa using hu)⟩) (by simp) (by simp [Value.oneCell']) (by unfold maxLen; omega) (by omega) ?_
                      rintro v9 w9 - hB9
                      have e9 : B.length + 1 = (B ++ [true]).length := by simp
                      have hC9 : Ent.holds w9 (.own v9 (B.length + 1) (bL B ++ [.bool true]) 4 1) := HP.get hB9 0 rfl
                      obtain ⟨pv9, cp9, rfl⟩ := own_rowG hC9
                      rw [e9] at hB9 ⊢
                      have hH69 : HP Tr w _ [.own (.slice pv9 (B ++ [true]).length cp9) (B ++ [true]).length (bL (B ++ [true])) 4 1, .own (.slice pv2 T.length cp2) T.length (iL T) 3 1, .cel q #[.slice (some ⟨c, 0, none⟩) n n, vI (h : Int), vI (((t + 1) % n : Nat) : Int), vI 0, vI (k : Int), vI wo, vI tk] 129, .cel c (irow n C) 3, .cel b66 #[.bool true] 4] := HP.eq hB9 (by simp [bL])
                      have hH70 : HP Tr w _ [.own (.slice pv9 (B ++ [true]).length cp9) (B ++ [true]).length (bL (B ++ [true])) 4 1, .own (.slice pv2 T.length cp2) T.length (iL T) 3 1, .cel q #[.slice (some ⟨c, 0, none⟩) n n, vI (h : Int), vI (((t + 1) % n : Nat) : Int), vI 0, vI (k : Int), vI wo, vI tk] 129, .cel c (irow n C) 3] := (HP.drop hH69 4)
                      refine WL.pure (v := .slice pv9 ((B ++ [true]).length) cp9) 8 rfl (Nat.le_of_ble_eq_true rfl) rfl rfl (by kernel_rfl) ?_
                      refine WL.nil ?_
                      refine WQ.inNormal ?_
                      refine WQ.inNormal ?_
                      refine WQ.then ?_
                      refine hK29 _ _ _ ?_
                      refine WC.region ?_
                      refine WL.pure (v := vI ((i + 1 : Nat) : Int)) 127 rfl (Nat.le_of_ble_eq_true rfl) rfl rfl (x_add (Z := ((i + 1 : Nat) : Int)) rfl rfl rfl (by omega) (by omega) (by omega)) ?_
                      refine WL.pure (v := vI ((i + 1 : Nat) : Int)) 59 rfl (Nat.le_of_ble_eq_true rfl) rfl rfl (by kernel_rfl) ?_
                      refine WL.nil ?_
                      refine WQ.sub (l' := [(1, .slice ip R.length icap), (2, vI (tl)), (8, .slice pv9 ((B ++ [true]).length) cp9), (9, .slice pv2 T.length cp2), (11, vP q 0), (57, .slice (some ⟨gs, os, none⟩) sc.length cq), (58, vI (sc.length : Int)), (59, vI ((i + 1 : Nat) : Int))]) ⟨rfl, rfl, rfl, rfl, rfl, rfl, rfl, rfl, trivial⟩ ?_
                      refine WQ.then (hK24 _ _ _ (by omega) ⟨i + 1, C, h, ((t + 1) % n), 0, k, wo, tk, (B ++ [true]), T, (tl), pv9, cp9, pv2, cp2, ip, icap, R, rfl, rfl, by omega, by rw [zer_s hs0]; exact (hI.wTurn (by rw [← hn])), .inl rfl, hk, by rw [hR]; simp, hRin, hRc, hH70⟩)
                  ·
                    by_cases hs1 : sc.getD i 0 = 1
                    ·
                      rcases hk with rfl | rfl | rfl
                      ·
                        have hH71 : HP Tr w _ [.own (.slice pv1 B.length cp1) B.length (bL B) 4 1, .own (.slice pv2 T.length cp2) T.length (iL T) 3 1, .cel q #[.slice (some ⟨c, 0, none⟩) n n, vI (h : Int), vI (t : Int), vI (p : Int), vI 0, vI wo, vI tk] 129, .cel c (irow n C) 3] := hH26
                        refine WC.region ?_
                        refine WL.pure (v := vP q 0) 64 rfl (Nat.le_of_ble_eq_true rfl) rfl rfl (by kernel_rfl) ?_
                        refine WL.call (f := 77) (args := #[vP q 0]) 65 rfl (Nat.le_of_ble_eq_true rfl) rfl rfl (by kernel_rfl) ?_
                        refine (Busy_any q c n C h t p 0 wo tk (decide (p ≠ 0)) false _ (HP.ownB (A := [Ent.own (.slice pv1 B.length cp1) B.length (bL B) 4 1, Ent.own (.slice pv2 T.length cp2) T.length (iL T) 3 1]) hH71) hn29 hh ht rfl rfl).mono ?_
                        rintro e w4 ⟨rfl, hb4⟩
                        refine ⟨_, rfl, ?_⟩
                        have hH72 : HP Tr w _ [.own (.slice pv1 B.length cp1) B.length (bL B) 4 1, .own (.slice pv2 T.length cp2) T.length (iL T) 3 1, .cel q #[.slice (some ⟨c, 0, none⟩) n n, vI (h : Int), vI (t : Int), vI (p : Int), vI 0, vI wo, vI tk] 129, .cel c (irow n C) 3] := HP.call hH71 hb4
                        refine WL.pure (v := .tuple #[.bool (decide (p ≠ 0)), .bool false]) 63 rfl (Nat.le_of_ble_eq_true rfl) rfl rfl (by kernel_rfl) ?_
                        refine WL.pure (v := .bool (decide (p ≠ 0))) 66 rfl (Nat.le_of_ble_eq_true rfl) rfl rfl (by kernel_rfl) ?_
                        refine WL.pure (v := .bool false) 67 rfl (Nat.le_of_ble_eq_true rfl) rfl rfl (by kernel_rfl) ?_
                        refine WL.pure (v := .bool (decide (p ≠ 0))) 16 rfl (Nat.le_of_ble_eq_true rfl) rfl rfl (by kernel_rfl) ?_
                        refine WL.pure (v := .bool false) 17 rfl (Nat.le_of_ble_eq_true rfl) rfl rfl (by kernel_rfl) ?_
                        refine WL.nil ?_
                        refine WQ.then ?_
                        refine hK31 _ _ _ ?_
                        refine WC.sub (l' := [(1, .slice ip R.length icap), (2, vI tl), (8, .slice pv1 B.length cp1), (9, .slice pv2 T.length cp2), (11, vP q 0), (15, vI (sc.getD i 0)), (16, .bool (decide (p ≠ 0))), (17, .bool false), (57, .slice (some ⟨gs, os, none⟩) sc.length cq), (58, vI (sc.length : Int)), (59, vI (i : Int)), (60, .bool true)]) ⟨rfl, rfl, rfl, rfl, rfl, rfl, rfl, rfl, rfl, rfl, rfl, rfl, trivial⟩ ?_
                        refine WC.block ?_
                        refine WC.seq fun K73 hK73 => ?_
                        refine WC.region ?_
                        refine WL.pure (v := vI (sc.getD i 0)) 69 rfl (Nat.le_of_ble_eq_true rfl) rfl rfl (by kernel_rfl) ?_
                        refine WL.pure (v := .bool false) 70 rfl (Nat.le_of_ble_eq_true rfl) rfl rfl (x_eql rfl rfl rfl (dF (hs0))) ?_
                        refine WL.pure (v := .bool false) 71 rfl (Nat.le_of_ble_eq_true rfl) rfl rfl (by kernel_rfl) ?_
                        refine WL.pass 72 rfl (Nat.le_of_ble_eq_true rfl) rfl ?_
                        refine WL.pass 73 rfl (Nat.le_of_ble_eq_true rfl) rfl ?_
                        refine WL.pass 74 rfl (Nat.le_of_ble_eq_true rfl) rfl ?_
                        refine WL.pass 75 rfl (Nat.le_of_ble_eq_true rfl) rfl ?_
                        refine WL.pass 76 rfl (Nat.le_of_ble_eq_true rfl) rfl ?_
                        refine WL.pass 77 rfl (Nat.le_of_ble_eq_true rfl) rfl ?_
                        refine WL.pure (v := .bool false) 78 rfl (Nat.le_of_ble_eq_true rfl) rfl rfl (by kernel_rfl) ?_
                        refine WL.pure (v := .bool false) 68 rfl (Nat.le_of_ble_eq_true rfl) rfl rfl (by kernel_rfl) ?_
                        refine WL.nil ?_
                        refine WQ.then ?_
                        refine hK73 _ _ _ ?_
                        refine WC.sub (l' := [(1, .slice ip R.length icap), (2, vI tl), (8, .slice pv1 B.length cp1), (9, .slice pv2 T.length cp2), (11, vP q 0), (15, vI (sc.getD i 0)), (16, .bool (decide (p ≠ 0))), (17, .bool false), (57, .slice (some ⟨gs, os, none⟩) sc.length cq), (58, vI (sc.length : Int)), (59, vI (i : Int)), (60, .bool true), (68, .bool false)]) ⟨rfl, rfl, rfl, rfl, rfl, rfl, rfl, rfl, rfl, rfl, rfl, rfl, rfl, trivial⟩ ?_
                        refine WC.no rfl ?_
                        refine WC.seq fun K74 hK74 => ?_
                        refine WC.region ?_
                        refine WL.pure (v := vI (sc.getD i 0)) 100 rfl (Nat.le_of_ble_eq_true rfl) rfl rfl (by kernel_rfl) ?_
                        refine WL.pure (v := .bool true) 101 rfl (Nat.le_of_ble_eq_true rfl) rfl rfl (x_eql rfl rfl rfl (dT (hs1))) ?_
                        refine WL.pure (v := .bool true) 102 rfl (Nat.le_of_ble_eq_true rfl) rfl rfl (by kernel_rfl) ?_
                        refine WL.pure (v := .bool false) 103 rfl (Nat.le_of_ble_eq_true rfl) rfl rfl (by kernel_rfl) ?_
                        refine WL.pure (v := .bool false) 104 rfl (Nat.le_of_ble_eq_true rfl) rfl rfl (by kernel_rfl) ?_
                        refine WL.pure (v := vI tl) 105 rfl (Nat.le_of_ble_eq_true rfl) rfl rfl (by kernel_rfl) ?_
                        by_cases htl : (0 : Int) < tl
                        ·
                          refine WL.pure (v := .bool true) 106 rfl (Nat.le_of_ble_eq_true rfl) rfl rfl (x_gtr rfl rfl rfl (dT (htl))) ?_
                          refine WL.pure (v := .bool true) 107 rfl (Nat.le_of_ble_eq_true rfl) rfl rfl (by kernel_rfl) ?_
                          refine WL.pure (v := .bool true) 108 rfl (Nat.le_of_ble_eq_true rfl) rfl rfl (by kernel_rfl) ?_
                          refine WL.pure (v := .bool true) 99 rfl (Nat.le_of_ble_eq_true rfl) rfl rfl (by kernel_rfl) ?_
                          refine WL.nil ?_
                          refine WQ.then ?_
                          refine hK74 _ _ _ ?_
                          refine WC.sub (l' := [(1, .slice ip R.length icap), (2, vI tl), (8, .slice pv1 B.length cp1), (9, .slice pv2 T.length cp2), (11, vP q 0), (15, vI (sc.getD i 0)), (16, .bool (decide (p ≠ 0))), (17, .bool false), (57, .slice (some ⟨gs, os, none⟩) sc.length cq), (58, vI (sc.length : Int)), (59, vI (i : Int)), (60, .bool true), (68, .bool false), (99, .bool true)]) ⟨rfl, rfl, rfl, rfl, rfl, rfl, rfl, rfl, rfl, rfl, rfl, rfl, rfl, rfl, trivial⟩ ?_
                          refine WC.yes rfl ?_
                          refine WC.seq fun K75 hK75 => ?_
                          refine WC.seq fun K76 hK76 => ?_
                          refine WC.region ?_
                          refine WL.pure (v := .bool false) 109 rfl (Nat.le_of_ble_eq_true rfl) rfl rfl (by kernel_rfl) ?_
                          refine WL.pure (v := .bool true) 110 rfl (Nat.le_of_ble_eq_true rfl) rfl rfl (by kernel_rfl) ?_
                          refine WL.nil ?_
                          refine WQ.then ?_
                          refine hK76 _ _ _ ?_
                          refine WC.yes rfl ?_
                          refine WC.seq fun K77 hK77 => ?_
                          refine WC.region ?_
                          refine WL.pure (v := vP q 0) 111 rfl (Nat.le_of_ble_eq_true rfl) rfl rfl (by kernel_rfl) ?_
                          refine WL.call (f := 80) (args := #[vP q 0]) 112 rfl (Nat.le_of_ble_eq_true rfl) rfl rfl (by kernel_rfl) ?_
                          refine (BeginTake_any q c n C h t p wo tk _ (HP.ownB (A := [Ent.own (.slice pv1 B.length cp1) B.length (bL B) 4 1, Ent.own (.slice pv2 T.length cp2) T.length (iL T) 3 1]) hH72) hn29 hh ht).mono ?_
                          rintro e w4 ⟨rfl, hb4⟩
                          refine ⟨_, rfl, ?_⟩
                          have hF := HP.exch (A := [Ent.own (.slice pv1 B.length cp1) B.length (bL B) 4 1, Ent.own (.slice pv2 T.length cp2) T.length (iL T) 3 1]) hH72 hb4
                          have hH78 : HP Tr w _ [.own (.slice pv1 B.length cp1) B.length (bL B) 4 1, .own (.slice pv2 T.length cp2) T.length (iL T) 3 1, .cel q #[.slice (some ⟨c, 0, none⟩) n n, vI (h : Int), vI (t : Int), vI (p : Int), vI 1, vI wo, vI tk] 129, .cel c (irow n C) 3] := hF
                          refine WL.nil ?_
                          refine WQ.then ?_
                          refine hK77 _ _ _ ?_
                          refine WC.region ?_
                          refine WL.pure (v := vI tl) 113 rfl (Nat.le_of_ble_eq_true rfl) rfl rfl (by kernel_rfl) ?_
                          refine WL.pure (v := vI (tl - 1)) 114 rfl (Nat.le_of_ble_eq_true rfl) rfl rfl (x_sub (Z := (tl - 1)) rfl rfl rfl (by omega) (by have := hI.t0; omega) (by have ht8 := hI.tls; have := hI.t0; split at ht8 <;> omega)) ?_
                          refine WL.pure (v := vI (tl - 1)) 2 rfl (Nat.le_of_ble_eq_true rfl) rfl rfl (by kernel_rfl) ?_
                          refine WL.nil ?_
                          refine WQ.then ?_
                          refine hK75 _ _ _ ?_
                          refine WC.sub (l' := [(1, .slice ip R.length icap), (2, vI (tl - 1)), (8, .slice pv1 B.length cp1), (9, .slice pv2 T.length cp2), (11, vP q 0), (15, vI (sc.getD i 0)), (16, .bool (decide (p ≠ 0))), (17, .bool false), (57, .slice (some ⟨gs, os, none⟩) sc.length cq), (58, vI (sc.length : Int)), (59, vI (i : Int)), (60, .bool true), (68, .bool false), (99, .bool true), (110, .bool true)]) ⟨rfl, rfl, rfl, rfl, rfl, rfl, rfl, rfl, rfl, rfl, rfl, rfl, rfl, rfl, rfl, trivial⟩ ?_
                          refine WC.seq fun K79 hK79 => ?_
                          refine WC.region ?_
                          refine WL.pure (v := vP q 0) 116 rfl (Nat.le_of_ble_eq_true rfl) rfl rfl (by kernel_rfl) ?_
                          by_cases hf : h = t
                          ·
                            refine WL.call (f := 81) (args := #[vP q 0]) 117 rfl (Nat.le_of_ble_eq_true rfl) rfl rfl (by kernel_rfl) ?_
                            refine (StepTake_1e q c n C h t p wo tk _ (HP.ownB (A := [Ent.own (.slice pv1 B.length cp1) B.length (bL B) 4 1, Ent.own (.slice pv2 T.length cp2) T.length (iL T) 3 1]) hH78) hn29 hh ht hf).mono ?_
                            rintro e w4 ⟨rfl, hb4⟩
                            refine ⟨_, rfl, ?_⟩
                            have hF := HP.exch (A := [Ent.own (.slice pv1 B.length cp1) B.length (bL B) 4 1, Ent.own (.slice pv2 T.length cp2) T.length (iL T) 3 1]) hH78 hb4
                            have hH80 : HP Tr w _ [.own (.slice pv1 B.length cp1) B.length (bL B) 4 1, .own (.slice pv2 T.length cp2) T.length (iL T) 3 1, .cel q #[.slice (some ⟨c, 0, none⟩) n n, vI (h : Int), vI (t : Int), vI (p : Int), vI 0, vI wo, vI tk] 129, .cel c (irow n C) 3] := hF
                            refine WL.pure (v := .tuple #[.bool true, .bool false, vI 0, vI 0]) 115 rfl (Nat.le_of_ble_eq_true rfl) rfl rfl (by kernel_rfl) ?_
                            refine WL.pure (v := .bool true) 118 rfl (Nat.le_of_ble_eq_true rfl) rfl rfl (by kernel_rfl) ?_
                            refine WL.pure (v := .bool false) 119 rfl (Nat.le_of_ble_eq_true rfl) rfl rfl (by kernel_rfl) ?_
                            refine WL.pure (v := vI 0) 120 rfl (Nat.le_of_ble_eq_true rfl) rfl rfl (by kernel_rfl) ?_
                            refine WL.pure (v := vI 0) 121 rfl (Nat.le_of_ble_eq_true rfl) rfl rfl (by kernel_rfl) ?_
                            refine WL.pure (v := .bool true) 21 rfl (Nat.le_of_ble_eq_true rfl) rfl rfl (by kernel_rfl) ?_
                            refine WL.pure (v := .bool false) 22 rfl (Nat.le_of_ble_eq_true rfl) rfl rfl (by kernel_rfl) ?_
                            refine WL.pure (v := vI 0) 23 rfl (Nat.le_of_ble_eq_true rfl) rfl rfl (by kernel_rfl) ?_
                            refine WL.pure (v := vI 0) 24 rfl (Nat.le_of_ble_eq_true rfl) rfl rfl (by kernel_rfl) ?_
                            refine WL.nil ?_
                            refine WQ.then ?_
                            refine hK79 _ _ _ ?_
                            refine WC.sub (l' := [(1, .slice ip R.length icap), (2, vI (tl - 1)), (8, .slice pv1 B.length cp1), (9, .slice pv2 T.length cp2), (11, vP q 0), (15, vI (sc.getD i 0)), (16, .bool (decide (p ≠ 0))), (17, .bool false), (22, .bool false), (23, vI 0), (57, .slice (some ⟨gs, os, none⟩) sc.length cq), (58, vI (sc.length : Int)), (59, vI (i : Int)), (60, .bool true), (68, .bool false), (99, .bool true), (110, .bool true)]) ⟨rfl, rfl, rfl, rfl, rfl, rfl, rfl, rfl, rfl, rfl, rfl, rfl, rfl, rfl, rfl, rfl, rfl, trivial⟩ ?_
                            refine WC.seq fun K81 hK81 => ?_
                            refine WC.region ?_
                            refine WL.pure (v := .bool false) 122 rfl (Nat.le_of_ble_eq_true rfl) rfl rfl (by kernel_rfl) ?_
                            refine WL.nil ?_
                            refine WQ.then ?_
                            refine hK81 _ _ _ ?_
                            refine WC.no rfl ?_
                            refine WC.skip ?_
                            refine WQ.inNormal ?_
                            refine WQ.inNormal ?_
                            refine WQ.then ?_
                            refine hK29 _ _ _ ?_
                            refine WC.region ?_
                            refine WL.pure (v := vI ((i + 1 : Nat) : Int)) 127 rfl (Nat.le_of_ble_eq_true rfl) rfl rfl (x_add (Z := ((i + 1 : Nat) : Int)) rfl rfl rfl (by omega) (by omega) (by omega)) ?_
                            refine WL.pure (v := vI ((i + 1 : Nat) : Int)) 59 rfl (Nat.le_of_ble_eq_true rfl) rfl rfl (by kernel_rfl) ?_
                            refine WL.nil ?_
                            refine WQ.sub (l' := [(1, .slice ip R.length icap), (2, vI (tl - 1)), (8, .slice pv1 B.length cp1), (9, .slice pv2 T.length cp2), (11, vP q 0), (57, .slice (some ⟨gs, os, none⟩) sc.length cq), (58, vI (sc.length : Int)), (59, vI ((i + 1 : Nat) : Int))]) ⟨rfl, rfl, rfl, rfl, rfl, rfl, rfl, rfl, trivial⟩ ?_
                            refine WQ.then (hK24 _ _ _ (by omega) ⟨i + 1, C, h, t, p, 0, wo, tk, B, T, (tl - 1), pv1, cp1, pv2, cp2, ip, icap, R, rfl, rfl, by omega, by rw [zer_n hs0]; exact (hI.rEmpty (by omega)), hp, .inl rfl, hR, hRin, hRc, hH80⟩)
                          ·
                            refine WL.call (f := 81) (args := #[vP q 0]) 117 rfl (Nat.le_of_ble_eq_true rfl) rfl rfl (by kernel_rfl) ?_
                            refine (StepTake_1n q c n C h t p wo tk _ (HP.ownB (A := [Ent.own (.slice pv1 B.length cp1) B.length (bL B) 4 1, Ent.own (.slice pv2 T.length cp2) T.length (iL T) 3 1]) hH78) hn29 hh ht hf).mono ?_
                            rintro e w4 ⟨rfl, hb4⟩
                            refine ⟨_, rfl, ?_⟩
                            have hF := HP.exch (A := [Ent.own (.slice pv1 B.length cp1) B.length (bL B) 4 1, Ent.own (.slice pv2 T.length cp2) T.length (iL T) 3 1]) hH78 hb4
                            have hH82 : HP Tr w _ [.own (.slice pv1 B.length cp1) B.length (bL B) 4 1, .own (.slice pv2 T.length cp2) T.length (iL T) 3 1, .cel q #[.slice (some ⟨c, 0, none⟩) n n, vI (h : Int), vI (t : Int), vI (p : Int), vI 2, vI wo, vI tk] 129, .cel c (irow n C) 3] := hF
                            refine WL.pure (v := .tuple #[.bool false, .bool false, vI 0, vI 0]) 115 rfl (Nat.le_of_ble_eq_true rfl) rfl rfl (by kernel_rfl) ?_
                            refine WL.pure (v := .bool false) 118 rfl (Nat.le_of_ble_eq_true rfl) rfl rfl (by kernel_rfl) ?_
                            refine WL.pure (v := .bool false) 119 rfl (Nat.le_of_ble_eq_true rfl) rfl rfl (by kernel_rfl) ?_
                            refine WL.pure (v := vI 0) 120 rfl (Nat.le_of_ble_eq_true rfl) rfl rfl (by kernel_rfl) ?_
                            refine WL.pure (v := vI 0) 121 rfl (Nat.le_of_ble_eq_true rfl) rfl rfl (by kernel_rfl) ?_
                            refine WL.pure (v := .bool false) 21 rfl (Nat.le_of_ble_eq_true rfl) rfl rfl (by kernel_rfl) ?_
                            refine WL.pure (v := .bool false) 22 rfl (Nat.le_of_ble_eq_true rfl) rfl rfl (by kernel_rfl) ?_
                            refine WL.pure (v := vI 0) 23 rfl (Nat.le_of_ble_eq_true rfl) rfl rfl (by kernel_rfl) ?_
                            refine WL.pure (v := vI 0) 24 rfl (Nat.le_of_ble_eq_true rfl) rfl rfl (by kernel_rfl) ?_
                            refine WL.nil ?_
                            refine WQ.then ?_
                            refine hK79 _ _ _ ?_
                            refine WC.sub (l' := [(1, .slice ip R.length icap), (2, vI (tl - 1)), (8, .slice pv1 B.length cp1), (9, .slice pv2 T.length cp2), (11, vP q 0), (15, vI (sc.getD i 0)), (16, .bool (decide (p ≠ 0))), (17, .bool false), (22, .bool false), (23, vI 0), (57, .slice (some ⟨gs, os, none⟩) sc.length cq), (58, vI (sc.length : Int)), (59, vI (i : Int)), (60, .bool true), (68, .bool false), (99, .bool true), (110, .bool true)]) ⟨rfl, rfl, rfl, rfl, rfl, rfl, rfl, rfl, rfl, rfl, rfl, rfl, rfl, rfl, rfl, rfl, rfl, trivial⟩ ?_
                            refine WC.seq fun K83 hK83 => ?_
                            refine WC.region ?_
                            refine WL.pure (v := .bool false) 122 rfl (Nat.le_of_ble_eq_true rfl) rfl rfl (by kernel_rfl) ?_
                            refine WL.nil ?_
                            refine WQ.then ?_
                            refine hK83 _ _ _ ?_
                            refine WC.no rfl ?_
                            refine WC.skip ?_
                            refine WQ.inNormal ?_
                            refine WQ.inNormal ?_
                            refine WQ.then ?_
                            refine hK29 _ _ _ ?_
                            refine WC.region ?_
                            refine WL.pure (v := vI ((i + 1 : Nat) : Int)) 127 rfl (Nat.le_of_ble_eq_true rfl) rfl rfl (x_add (Z := ((i + 1 : Nat) : Int)) rfl rfl rfl (by omega) (by omega) (by omega)) ?_
                            refine WL.pure (v := vI ((i + 1 : Nat) : Int)) 59 rfl (Nat.le_of_ble_eq_true rfl) rfl rfl (by kernel_rfl) ?_
                            refine WL.nil ?_
                            refine WQ.sub (l' := [(1, .slice ip R.length icap), (2, vI (tl - 1)), (8, .slice pv1 B.length cp1), (9, .slice pv2 T.length cp2), (11, vP q 0), (57, .slice (some ⟨gs, os, none⟩) sc.length cq), (58, vI (sc.length : Int)), (59, vI ((i + 1 : Nat) : Int))]) ⟨rfl, rfl, rfl, rfl, rfl, rfl, rfl, rfl, trivial⟩ ?_
                            refine WQ.then (hK24 _ _ _ (by omega) ⟨i + 1, C, h, t, p, 2, wo, tk, B, T, (tl - 1), pv1, cp1, pv2, cp2, ip, icap, R, rfl, rfl, by omega, by rw [zer_n hs0]; exact (hI.rNon (by omega) hf), hp, .inr (.inl rfl), hR, hRin, hRc, hH82⟩)
                        ·
                          refine WL.pure (v := .bool false) 106 rfl (Nat.le_of_ble_eq_true rfl) rfl rfl (x_gtr rfl rfl rfl (dF (htl))) ?_
                          refine WL.pure (v := .bool false) 107 rfl (Nat.le_of_ble_eq_true rfl) rfl rfl (by kernel_rfl) ?_
                          refine WL.pure (v := .bool false) 108 rfl (Nat.le_of_ble_eq_true rfl) rfl rfl (by kernel_rfl) ?_
                          refine WL.pure (v := .bool false) 99 rfl (Nat.le_of_ble_eq_true rfl) rfl rfl (by kernel_rfl) ?_
                          refine WL.nil ?_
                          refine WQ.then ?_
                          refine hK74 _ _ _ ?_
                          refine WC.sub (l' := [(1, .slice ip R.length icap), (2, vI tl), (8, .slice pv1 B.length cp1), (9, .slice pv2 T.length cp2), (11, vP q 0), (15, vI (sc.getD i 0)), (16, .bool (decide (p ≠ 0))), (17, .bool false), (57, .slice (some ⟨gs, os, none⟩) sc.length cq), (58, vI (sc.length : Int)), (59, vI (i : Int)), (60, .bool true), (68, .bool false), (99, .bool false)]) ⟨rfl, rfl, rfl, rfl, rfl, rfl, rfl, rfl, rfl, rfl, rfl, rfl, rfl, rfl, trivial⟩ ?_
                          refine WC.no rfl ?_
                          refine WC.skip ?_
                          refine WQ.inNormal ?_
                          refine WQ.inNormal ?_
                          refine WQ.then ?_
                          refine hK29 _ _ _ ?_
                          refine WC.region ?_
                          refine WL.pure (v := vI ((i + 1 : Nat) : Int)) 127 rfl (Nat.le_of_ble_eq_true rfl) rfl rfl (x_add (Z := ((i + 1 : Nat) : Int)) rfl rfl rfl (by omega) (by omega) (by omega)) ?_
                          refine WL.pure (v := vI ((i + 1 : Nat) : Int)) 59 rfl (Nat.le_of_ble_eq_true rfl) rfl rfl (by kernel_rfl) ?_
                          refine WL.nil ?_
                          refine WQ.sub (l' := [(1, .slice ip R.length icap), (2, vI (tl)), (8, .slice pv1 B.length cp1), (9, .slice pv2 T.length cp2), (11, vP q 0), (57, .slice (some ⟨gs, os, none⟩) sc.length cq), (58, vI (sc.length : Int)), (59, vI ((i + 1 : Nat) : Int))]) ⟨rfl, rfl, rfl, rfl, rfl, rfl, rfl, rfl, trivial⟩ ?_
                          refine WQ.then (hK24 _ _ _ (by omega) ⟨i + 1, C, h, t, p, 0, wo, tk, B, T, (tl), pv1, cp1, pv2, cp2, ip, icap, R, rfl, rfl, by omega, by rw [zer_n hs0]; exact (hI), hp, .inl rfl, hR, hRin, hRc, hH72⟩)
                      ·
                        have hH84 : HP Tr w _ [.own (.slice pv1 B.length cp1) B.length (bL B) 4 1, .own (.slice pv2 T.length cp2) T.length (iL T) 3 1, .cel q #[.slice (some ⟨c, 0, none⟩) n n, vI (h : Int), vI (t : Int), vI (p : Int), vI 2, vI wo, vI tk] 129, .cel c (irow n C) 3] := hH26
                        refine WC.region ?_
                        refine WL.pure (v := vP q 0) 64 rfl (Nat.le_of_ble_eq_true rfl) rfl rfl (by kernel_rfl) ?_
                        refine WL.call (f := 77) (args := #[vP q 0]) 65 rfl (Nat.le_of_ble_eq_true rfl) rfl rfl (by kernel_rfl) ?_
                        refine (Busy_any q c n C h t p 2 wo tk (decide (p ≠ 0)) true _ (HP.ownB (A := [Ent.own (.slice pv1 B.length cp1) B.length (bL B) 4 1, Ent.own (.slice pv2 T.length cp2) T.length (iL T) 3 1]) hH84) hn29 hh ht rfl rfl).mono ?_
                        rintro e w4 ⟨rfl, hb4⟩
                        refine ⟨_, rfl, ?_⟩
                        have hH85 : HP Tr w _ [.own (.slice pv1 B.length cp1) B.length (bL B) 4 1, .own (.slice pv2 T.length cp2) T.length (iL T) 3 1, .cel q #[.slice (some ⟨c, 0, none⟩) n n, vI (h : Int), vI (t : Int), vI (p : Int), vI 2, vI wo, vI tk] 129, .cel c (irow n C) 3] := HP.call hH84 hb4
                        refine WL.pure (v := .tuple #[.bool (decide (p ≠ 0)), .bool true]) 63 rfl (Nat.le_of_ble_eq_true rfl) rfl rfl (by kernel_rfl) ?_
                        refine WL.pure (v := .bool (decide (p ≠ 0))) 66 rfl (Nat.le_of_ble_eq_true rfl) rfl rfl (by kernel_rfl) ?_
                        refine WL.pure (v := .bool true) 67 rfl (Nat.le_of_ble_eq_true rfl) rfl rfl (by kernel_rfl) ?_
                        refine WL.pure (v := .bool (decide (p ≠ 0))) 16 rfl (Nat.le_of_ble_eq_true rfl) rfl rfl (by kernel_rfl) ?_
                        refine WL.pure (v := .bool true) 17 rfl (Nat.le_of_ble_eq_true rfl) rfl rfl (by kernel_rfl) ?_
                        refine WL.nil ?_
                        refine WQ.then ?_
                        refine hK31 _ _ _ ?_
                        refine WC.sub (l' := [(1, .slice ip R.length icap), (2, vI tl), (8, .slice pv1 B.length cp1), (9, .slice pv2 T.length cp2), (11, vP q 0), (15, vI (sc.getD i 0)), (16, .bool (decide (p ≠ 0))), (17, .bool true), (57, .slice (some ⟨gs, os, none⟩) sc.length cq), (58, vI (sc.length : Int)), (59, vI (i : Int)), (60, .bool true)]) ⟨rfl, rfl, rfl, rfl, rfl, rfl, rfl, rfl, rfl, rfl, rfl, rfl, trivial⟩ ?_
                        refine WC.block ?_
                        refine WC.seq fun K86 hK86 => ?_
                        refine WC.region ?_
                        refine WL.pure (v := vI (sc.getD i 0)) 69 rfl (Nat.le_of_ble_eq_true rfl) rfl rfl (by kernel_rfl) ?_
                        refine WL.pure (v := .bool false) 70 rfl (Nat.le_of_ble_eq_true rfl) rfl rfl (x_eql rfl rfl rfl (dF (hs0))) ?_
                        refine WL.pure (v := .bool false) 71 rfl (Nat.le_of_ble_eq_true rfl) rfl rfl (by kernel_rfl) ?_
                        refine WL.pass 72 rfl (Nat.le_of_ble_eq_true rfl) rfl ?_
                        refine WL.pass 73 rfl (Nat.le_of_ble_eq_true rfl) rfl ?_
                        refine WL.pass 74 rfl (Nat.le_of_ble_eq_true rfl) rfl ?_
                        refine WL.pass 75 rfl (Nat.le_of_ble_eq_true rfl) rfl ?_
                        refine WL.pass 76 rfl (Nat.le_of_ble_eq_true rfl) rfl ?_
                        refine WL.pass 77 rfl (Nat.le_of_ble_eq_true rfl) rfl ?_
                        refine WL.pure (v := .bool false) 78 rfl (Nat.le_of_ble_eq_true rfl) rfl rfl (by kernel_rfl) ?_
                        refine WL.pure (v := .bool false) 68 rfl (Nat.le_of_ble_eq_true rfl) rfl rfl (by kernel_rfl) ?_
                        refine WL.nil ?_
                        refine WQ.then ?_
                        refine hK86 _ _ _ ?_
                        refine WC.sub (l' := [(1, .slice ip R.length icap), (2, vI tl), (8, .slice pv1 B.length cp1), (9, .slice pv2 T.length cp2), (11, vP q 0), (15, vI (sc.getD i 0)), (16, .bool (decide (p ≠ 0))), (17, .bool true), (57, .slice (some ⟨gs, os, none⟩) sc.length cq), (58, vI (sc.length : Int)), (59, vI (i : Int)), (60, .bool true), (68, .bool false)]) ⟨rfl, rfl, rfl, rfl, rfl, rfl, rfl, rfl, rfl, rfl, rfl, rfl, rfl, trivial⟩ ?_
                        refine WC.no rfl ?_
                        refine WC.seq fun K87 hK87 => ?_
                        refine WC.region ?_
                        refine WL.pure (v := vI (sc.getD i 0)) 100 rfl (Nat.le_of_ble_eq_true rfl) rfl rfl (by kernel_rfl) ?_
                        refine WL.pure (v := .bool true) 101 rfl (Nat.le_of_ble_eq_true rfl) rfl rfl (x_eql rfl rfl rfl (dT (hs1))) ?_
                        refine WL.pure (v := .bool true) 102 rfl (Nat.le_of_ble_eq_true rfl) rfl rfl (by kernel_rfl) ?_
                        refine WL.pure (v := .bool true) 103 rfl (Nat.le_of_ble_eq_true rfl) rfl rfl (by kernel_rfl) ?_
                        refine WL.pure (v := .bool true) 104 rfl (Nat.le_of_ble_eq_true rfl) rfl rfl (by kernel_rfl) ?_
                        refine WL.pass 105 rfl (Nat.le_of_ble_eq_true rfl) rfl ?_
                        refine WL.pass 106 rfl (Nat.le_of_ble_eq_true rfl) rfl ?_
                        refine WL.pure (v := .bool true) 107 rfl (Nat.le_of_ble_eq_true rfl) rfl rfl (by kernel_rfl) ?_
                        refine WL.pure (v := .bool true) 108 rfl (Nat.le_of_ble_eq_true rfl) rfl rfl (by kernel_rfl) ?_
                        refine WL.pure (v := .bool true) 99 rfl (Nat.le_of_ble_eq_true rfl) rfl rfl (by kernel_rfl) ?_
                        refine WL.nil ?_
                        refine WQ.then ?_
                        refine hK87 _ _ _ ?_
                        refine WC.sub (l' := [(1, .slice ip R.length icap), (2, vI tl), (8, .slice pv1 B.length cp1), (9, .slice pv2 T.length cp2), (11, vP q 0), (15, vI (sc.getD i 0)), (16, .bool (decide (p ≠ 0))), (17, .bool true), (57, .slice (some ⟨gs, os, none⟩) sc.length cq), (58, vI (sc.length : Int)), (59, vI (i : Int)), (60, .bool true), (68, .bool false), (99, .bool true)]) ⟨rfl, rfl, rfl, rfl, rfl, rfl, rfl, rfl, rfl, rfl, rfl, rfl, rfl, rfl, trivial⟩ ?_
                        refine WC.yes rfl ?_
                        refine WC.seq fun K88 hK88 => ?_
                        refine WC.seq fun K89 hK89 => ?_
                        refine WC.region ?_
                        refine WL.pure (v := .bool true) 109 rfl (Nat.le_of_ble_eq_true rfl) rfl rfl (by kernel_rfl) ?_
                        refine WL.pure (v := .bool false) 110 rfl (Nat.le_of_ble_eq_true rfl) rfl rfl (by kernel_rfl) ?_
                        refine WL.nil ?_
                        refine WQ.then ?_
                        refine hK89 _ _ _ ?_
                        refine WC.no rfl ?_
                        refine WC.skip ?_
                        refine WQ.then ?_
                        refine hK88 _ _ _ ?_
                        refine WC.seq fun K90 hK90 => ?_
                        refine WC.region ?_
                        refine WL.pure (v := vP q 0) 116 rfl (Nat.le_of_ble_eq_true rfl) rfl rfl (by kernel_rfl) ?_
                        refine WL.call (f := 81) (args := #[vP q 0]) 117 rfl (Nat.le_of_ble_eq_true rfl) rfl rfl (by kernel_rfl) ?_
                        refine (StepTake_2 q c n C h t p wo tk _ (HP.ownB (A := [Ent.own (.slice pv1 B.length cp1) B.length (bL B) 4 1, Ent.own (.slice pv2 T.length cp2) T.length (iL T) 3 1]) hH85) hn29 hh ht).mono ?_
                        rintro e w4 ⟨rfl, hb4⟩
                        refine ⟨_, rfl, ?_⟩
                        have hF := HP.exch (A := [Ent.own (.slice pv1 B.length cp1) B.length (bL B) 4 1, Ent.own (.slice pv2 T.length cp2) T.length (iL T) 3 1]) hH85 hb4
                        have hH91 : HP Tr w _ [.own (.slice pv1 B.length cp1) B.length (bL B) 4 1, .own (.slice pv2 T.length cp2) T.length (iL T) 3 1, .cel q #[.slice (some ⟨c, 0, none⟩) n n, vI (h : Int), vI (t : Int), vI (p : Int), vI 3, vI wo, vI (C h)] 129, .cel c (irow n C) 3] := hF
                        refine WL.pure (v := .tuple #[.bool false, .bool false, vI 0, vI 0]) 115 rfl (Nat.le_of_ble_eq_true rfl) rfl rfl (by kernel_rfl) ?_
                        refine WL.pure (v := .bool false) 118 rfl (Nat.le_of_ble_eq_true rfl) rfl rfl (by kernel_rfl) ?_
                        refine WL.pure (v := .bool false) 119 rfl (Nat.le_of_ble_eq_true rfl) rfl rfl (by kernel_rfl) ?_
                        refine WL.pure (v := vI 0) 120 rfl (Nat.le_of_ble_eq_true rfl) rfl rfl (by kernel_rfl) ?_
                        refine WL.pure (v := vI 0) 121 rfl (Nat.le_of_ble_eq_true rfl) rfl rfl (by kernel_rfl) ?_
                        refine WL.pure (v := .bool false) 21 rfl (Nat.le_of_ble_eq_true rfl) rfl rfl (by kernel_rfl) ?_
                        refine WL.pure (v := .bool false) 22 rfl (Nat.le_of_ble_eq_true rfl) rfl rfl (by kernel_rfl) ?_
                        refine WL.pure (v := vI 0) 23 rfl (Nat.le_of_ble_eq_true rfl) rfl rfl (by kernel_rfl) ?_
                        refine WL.pure (v := vI 0) 24 rfl (Nat.le_of_ble_eq_true rfl) rfl rfl (by kernel_rfl) ?_
                        refine WL.nil ?_
                        refine WQ.then ?_
                        refine hK90 _ _ _ ?_
                        refine WC.sub (l' := [(1, .slice ip R.length icap), (2, vI tl), (8, .slice pv1 B.length cp1), (9, .slice pv2 T.length cp2), (11, vP q 0), (15, vI (sc.getD i 0)), (16, .bool (decide (p ≠ 0))), (17, .bool true), (22, .bool false), (23, vI 0), (57, .slice (some ⟨gs, os, none⟩) sc.length cq), (58, vI (sc.length : Int)), (59, vI (i : Int)), (60, .bool true), (68, .bool false), (99, .bool true), (110, .bool false)]) ⟨rfl, rfl, rfl, rfl, rfl, rfl, rfl, rfl, rfl, rfl, rfl, rfl, rfl, rfl, rfl, rfl, rfl, trivial⟩ ?_
                        refine WC.seq fun K92 hK92 => ?_
                        refine WC.region ?_
                        refine WL.pure (v := .bool false) 122 rfl (Nat.le_of_ble_eq_true rfl) rfl rfl (by kernel_rfl) ?_
                        refine WL.nil ?_
                        refine WQ.then ?_
                        refine hK92 _ _ _ ?_
                        refine WC.no rfl ?_
                        refine WC.skip ?_
                        refine WQ.inNormal ?_
                        refine WQ.inNormal ?_
                        refine WQ.then ?_
                        refine hK29 _ _ _ ?_
                        refine WC.region ?_
                        refine WL.pure (v := vI ((i + 1 : Nat) : Int)) 127 rfl (Nat.le_of_ble_eq_true rfl) rfl rfl (x_add (Z := ((i + 1 : Nat) : Int)) rfl rfl rfl (by omega) (by omega) (by omega)) ?_
                        refine WL.pure (v := vI ((i + 1 : Nat) : Int)) 59 rfl (Nat.le_of_ble_eq_true rfl) rfl rfl (by kernel_rfl) ?_
                        refine WL.nil ?_
                        refine WQ.sub (l' := [(1, .slice ip R.length icap), (2, vI (tl)), (8, .slice pv1 B.length cp1), (9, .slice pv2 T.length cp2), (11, vP q 0), (57, .slice (some ⟨gs, os, none⟩) sc.length cq), (58, vI (sc.length : Int)), (59, vI ((i + 1 : Nat) : Int))]) ⟨rfl, rfl, rfl, rfl, rfl, rfl, rfl, rfl, trivial⟩ ?_
                        refine WQ.then (hK24 _ _ _ (by omega) ⟨i + 1, C, h, t, p, 3, wo, (C h), B, T, (tl), pv1, cp1, pv2, cp2, ip, icap, R, rfl, rfl, by omega, by rw [zer_n hs0]; exact (hI.rMove), hp, .inr (.inr rfl), hR, hRin, hRc, hH91⟩)
                      ·
                        have hH93 : HP Tr w _ [.own (.slice pv1 B.length cp1) B.length (bL B) 4 1, .own (.slice pv2 T.length cp2) T.length (iL T) 3 1, .cel q #[.slice (some ⟨c, 0, none⟩) n n, vI (h : Int), vI (t : Int), vI (p : Int), vI 3, vI wo, vI tk] 129, .cel c (irow n C) 3] := hH26
                        refine WC.region ?_
                        refine WL.pure (v := vP q 0) 64 rfl (Nat.le_of_ble_eq_true rfl) rfl rfl (by kernel_rfl) ?_
                        refine WL.call (f := 77) (args := #[vP q 0]) 65 rfl (Nat.le_of_ble_eq_true rfl) rfl rfl (by kernel_rfl) ?_
                        refine (Busy_any q c n C h t p 3 wo tk (decide (p ≠ 0)) true _ (HP.ownB (A := [Ent.own (.slice pv1 B.length cp1) B.length (bL B) 4 1, Ent.own (.slice pv2 T.length cp2) T.length (iL T) 3 1]) hH93) hn29 hh ht rfl rfl).mono ?_
                        rintro e w4 ⟨rfl, hb4⟩
                        refine ⟨_, rfl, ?_⟩
                        have hH94 : HP Tr w _ [.own (.slice pv1 B.length cp1) B.length (bL B) 4 1, .own (.slice pv2 T.length cp2) T.length (iL T) 3 1, .cel q #[.slice (some ⟨c, 0, none⟩) n n, vI (h : Int), vI (t : Int), vI (p : Int), vI 3, vI wo, vI tk] 129, .cel c (irow n C) 3] := HP.call hH93 hb4
                        refine WL.pure (v := .tuple #[.bool (decide (p ≠ 0)), .bool true]) 63 rfl (Nat.le_of_ble_eq_true rfl) rfl rfl (by kernel_rfl) ?_
                        refine WL.pure (v := .bool (decide (p ≠ 0))) 66 rfl (Nat.le_of_ble_eq_true rfl) rfl rfl (by kernel_rfl) ?_
                        refine WL.pure (v := .bool true) 67 rfl (Nat.le_of_ble_eq_true rfl) rfl rfl (by kernel_rfl) ?_
                        refine WL.pure (v := .bool (decide (p ≠ 0))) 16 rfl (Nat.le_of_ble_eq_true rfl) rfl rfl (by kernel_rfl) ?_
                        refine WL.pure (v := .bool true) 17 rfl (Nat.le_of_ble_eq_true rfl) rfl rfl (by kernel_rfl) ?_
                        refine WL.nil ?_
                        refine WQ.then ?_
                        refine hK31 _ _ _ ?_
                        refine WC.sub (l' := [(1, .slice ip R.length icap), (2, vI tl), (8, .slice pv1 B.length cp1), (9, .slice pv2 T.length cp2), (11, vP q 0), (15, vI (sc.getD i 0)), (16, .bool (decide (p ≠ 0))), (17, .bool true), (57, .slice (some ⟨gs, os, none⟩) sc.length cq), (58, vI (sc.length : Int)), (59, vI (i : Int)), (60, .bool true)]) ⟨rfl, rfl, rfl, rfl, rfl, rfl, rfl, rfl, rfl, rfl, rfl, rfl, trivial⟩ ?_
                        refine WC.block ?_
                        refine WC.seq fun K95 hK95 => ?_
                        refine WC.region ?_
                        refine WL.pure (v := vI (sc.getD i 0)) 69 rfl (Nat.le_of_ble_eq_true rfl) rfl rfl (by kernel_rfl) ?_
                        refine WL.pure (v := .bool false) 70 rfl (Nat.le_of_ble_eq_true rfl) rfl rfl (x_eql rfl rfl rfl (dF (hs0))) ?_
                        refine WL.pure (v := .bool false) 71 rfl (Nat.le_of_ble_eq_true rfl) rfl rfl (by kernel_rfl) ?_
                        refine WL.pass 72 rfl (Nat.le_of_ble_eq_true rfl) rfl ?_
                        refine WL.pass 73 rfl (Nat.le_of_ble_eq_true rfl) rfl ?_
                        refine WL.pass 74 rfl (Nat.le_of_ble_eq_true rfl) rfl ?_
                        refine WL.pass 75 rfl (Nat.le_of_ble_eq_true rfl) rfl ?_
                        refine WL.pass 76 rfl (Nat.le_of_ble_eq_true rfl) rfl ?_
                        refine WL.pass 77 rfl (Nat.le_of_ble_eq_true rfl) rfl ?_
                        refine WL.pure (v := .bool false) 78 rfl (Nat.le_of_ble_eq_true rfl) rfl rfl (by kernel_rfl) ?_
                        refine WL.pure (v := .bool false) 68 rfl (Nat.le_of_ble_eq_true rfl) rfl rfl (by kernel_rfl) ?_
                        refine WL.nil ?_
                        refine WQ.then ?_
                        refine hK95 _ _ _ ?_
                        refine WC.sub (l' := [(1, .slice ip R.length icap), (2, vI tl), (8, .slice pv1 B.length cp1), (9, .slice pv2 T.length cp2), (11, vP q 0), (15, vI (sc.getD i 0)), (16, .bool (decide (p ≠ 0))), (17, .bool true), (57, .slice (some ⟨gs, os, none⟩) sc.length cq), (58, vI (sc.length : Int)), (59, vI (i : Int)), (60, .bool true), (68, .bool false)]) ⟨rfl, rfl, rfl, rfl, rfl, rfl, rfl, rfl, rfl, rfl, rfl, rfl, rfl, trivial⟩ ?_
                        refine WC.no rfl ?_
                        refine WC.seq fun K96 hK96 => ?_
                        refine WC.region ?_
                        refine WL.pure (v := vI (sc.getD i 0)) 100 rfl (Nat.le_of_ble_eq_true rfl) rfl rfl (by kernel_rfl) ?_
                        refine WL.pure (v := .bool true) 101 rfl (Nat.le_of_ble_eq_true rfl) rfl rfl (x_eql rfl rfl rfl (dT (hs1))) ?_
                        refine WL.pure (v := .bool true) 102 rfl (Nat.le_of_ble_eq_true rfl) rfl rfl (by kernel_rfl) ?_
                        refine WL.pure (v := .bool true) 103 rfl (Nat.le_of_ble_eq_true rfl) rfl rfl (by kernel_rfl) ?_
                        refine WL.pure (v := .bool true) 104 rfl (Nat.le_of_ble_eq_true rfl) rfl rfl (by kernel_rfl) ?_
                        refine WL.pass 105 rfl (Nat.le_of_ble_eq_true rfl) rfl ?_
                        refine WL.pass 106 rfl (Nat.le_of_ble_eq_true rfl) rfl ?_
                        refine WL.pure (v := .bool true) 107 rfl (Nat.le_of_ble_eq_true rfl) rfl rfl (by kernel_rfl) ?_
                        refine WL.pure (v := .bool true) 108 rfl (Nat.le_of_ble_eq_true rfl) rfl rfl (by kernel_rfl) ?_
                        refine WL.pure (v := .bool true) 99 rfl (Nat.le_of_ble_eq_true rfl) rfl rfl (by kernel_rfl) ?_
                        refine WL.nil ?_
                        refine WQ.then ?_
                        refine hK96 _ _ _ ?_
                        refine WC.sub (l' := [(1, .slice ip R.length icap), (2, vI tl), (8, .slice pv1 B.length cp1), (9, .slice pv2 T.length cp2), (11, vP q 0), (15, vI (sc.getD i 0)), (16, .bool (decide (p ≠ 0))), (17, .bool true), (57, .slice (some ⟨gs, os, none⟩) sc.length cq), (58, vI (sc.length : Int)), (59, vI (i : Int)), (60, .bool true), (68, .bool false), (99, .bool true)]) ⟨rfl, rfl, rfl, rfl, rfl, rfl, rfl, rfl, rfl, rfl, rfl, rfl, rfl, rfl, trivial⟩ ?_
                        refine WC.yes rfl ?_
                        refine WC.seq fun K97 hK97 => ?_
                        refine WC.seq fun K98 hK98 => ?_
                        refine WC.region ?_
                        refine WL.pure (v := .bool true) 109 rfl (Nat.le_of_ble_eq_true rfl) rfl rfl (by kernel_rfl) ?_
                        refine WL.pure (v := .bool false) 110 rfl (Nat.le_of_ble_eq_true rfl) rfl rfl (by kernel_rfl) ?_
                        refine WL.nil ?_
                        refine WQ.then ?_
                        refine hK98 _ _ _ ?_
                        refine WC.no rfl ?_
                        refine WC.skip ?_
                        refine WQ.then ?_
                        refine hK97 _ _ _ ?_
                        refine WC.seq fun K99 hK99 => ?_
                        refine WC.region ?_
                        refine WL.pure (v := vP q 0) 116 rfl (Nat.le_of_ble_eq_true rfl) rfl rfl (by kernel_rfl) ?_
                        refine WL.call (f := 81) (args := #[vP q 0]) 117 rfl (Nat.le_of_ble_eq_true rfl) rfl rfl (by kernel_rfl) ?_
                        refine (StepTake_3 q c n C h t p wo tk ((h + 1) % n) _ (HP.ownB (A := [Ent.own (.slice pv1 B.length cp1) B.length (bL B) 4 1, Ent.own (.slice pv2 T.length cp2) T.length (iL T) 3 1]) hH94) hn29 hh ht rfl).mono ?_
                        rintro e w4 ⟨rfl, hb4⟩
                        refine ⟨_, rfl, ?_⟩
                        have hF := HP.exch (A := [Ent.own (.slice pv1 B.length cp1) B.length (bL B) 4 1, Ent.own (.slice pv2 T.length cp2) T.length (iL T) 3 1]) hH94 hb4
                        have hH100 : HP Tr w _ [.own (.slice pv1 B.length cp1) B.length (bL B) 4 1, .own (.slice pv2 T.length cp2) T.length (iL T) 3 1, .cel q #[.slice (some ⟨c, 0, none⟩) n n, vI (((h + 1) % n : Nat) : Int), vI (t : Int), vI (p : Int), vI 0, vI wo, vI tk] 129, .cel c (irow n C) 3] := hF
                        refine WL.pure (v := .tuple #[.bool true, .bool true, vI tk, vI 0]) 115 rfl (Nat.le_of_ble_eq_true rfl) rfl rfl (by kernel_rfl) ?_
                        refine WL.pure (v := .bool true) 118 rfl (Nat.le_of_ble_eq_true rfl) rfl rfl (by kernel_rfl) ?_
                        refine WL.pure (v := .bool true) 119 rfl (Nat.le_of_ble_eq_true rfl) rfl rfl (by kernel_rfl) ?_
                        refine WL.pure (v := vI tk) 120 rfl (Nat.le_of_ble_eq_true rfl) rfl rfl (by kernel_rfl) ?_
                        refine WL.pure (v := vI 0) 121 rfl (Nat.le_of_ble_eq_true rfl) rfl rfl (by kernel_rfl) ?_
                        refine WL.pure (v := .bool true) 21 rfl (Nat.le_of_ble_eq_true rfl) rfl rfl (by kernel_rfl) ?_
                        refine WL.pure (v := .bool true) 22 rfl (Nat.le_of_ble_eq_true rfl) rfl rfl (by kernel_rfl) ?_
                        refine WL.pure (v := vI tk) 23 rfl (Nat.le_of_ble_eq_true rfl) rfl rfl (by kernel_rfl) ?_
                        refine WL.pure (v := vI 0) 24 rfl (Nat.le_of_ble_eq_true rfl) rfl rfl (by kernel_rfl) ?_
                        refine WL.nil ?_
                        refine WQ.then ?_
                        refine hK99 _ _ _ ?_
                        refine WC.sub (l' := [(1, .slice ip R.length icap), (2, vI tl), (8, .slice pv1 B.length cp1), (9, .slice pv2 T.length cp2), (11, vP q 0), (15, vI (sc.getD i 0)), (16, .bool (decide (p ≠ 0))), (17, .bool true), (22, .bool true), (23, vI tk), (57, .slice (some ⟨gs, os, none⟩) sc.length cq), (58, vI (sc.length : Int)), (59, vI (i : Int)), (60, .bool true), (68, .bool false), (99, .bool true), (110, .bool false)]) ⟨rfl, rfl, rfl, rfl, rfl, rfl, rfl, rfl, rfl, rfl, rfl, rfl, rfl, rfl, rfl, rfl, rfl, trivial⟩ ?_
                        refine WC.seq fun K101 hK101 => ?_
                        refine WC.region ?_
                        refine WL.pure (v := .bool true) 122 rfl (Nat.le_of_ble_eq_true rfl) rfl rfl (by kernel_rfl) ?_
                        refine WL.nil ?_
                        refine WQ.then ?_
                        refine hK101 _ _ _ ?_
                        refine WC.yes rfl ?_
                        refine WC.region ?_
                        refine WL.pure (v := .slice pv2 T.length cp2) 123 rfl (Nat.le_of_ble_eq_true rfl) rfl rfl (by kernel_rfl) ?_
                        refine WL.pure (v := vI tk) 124 rfl (Nat.le_of_ble_eq_true rfl) rfl rfl (by kernel_rfl) ?_
                        refine WL.alloc (c := #[vI tk]) (T := 3) hH100 125 rfl (by decide) rfl rfl (fun b102 => vS b102 1 1) (by kernel_rfl) (fun b102 w103 hw103 => ?_)
                        have hH104 : HP Tr w w103 [.own (.slice pv1 B.length cp1) B.length (bL B) 4 1, .own (.slice pv2 T.length cp2) T.length (iL T) 3 1, .cel q #[.slice (some ⟨c, 0, none⟩) n n, vI (((h + 1) % n : Nat) : Int), vI (t : Int), vI (p : Int), vI 0, vI wo, vI tk] 129, .cel c (irow n C) 3, .cel b102 #[vI tk] 3] := hw103.2
                        have nb102 := hw103.1
                        clear hw103
                        obtain ⟨i0, hi0, hz0, hz1, hz2⟩ := infoI
                        have htl := hI.tls
                        have ht0 := hI.t0
                        rw [if_neg (by decide)] at htl
                        refine WL.appendSrc (k := T.length) (m := 1) (iL [tk]) 1 hH104 126 rfl (by decide) rfl rfl rfl rfl Try.underlying58 hi0 hz0 hz1 hz2 rfl (by decide) rfl (.inl ⟨_, rfl, fun q u hu => by rw [ad_add]; exact HP.cell hH104 4 rfl (by simpa using hu)⟩) (by simp) (iL_one _) (by unfold maxLen; omega) (by omega) ?_
                        rintro v9 w9 - hB9
                        have e9 : T.length + 1 = (T ++ [tk]).length := by simp
                        have hC9 : Ent.holds w9 (.own v9 (T.length + 1) (iL T ++ iL [tk]) 3 1) := HP.get hB9 1 rfl
                        obtain ⟨pv9, cp9, rfl⟩ := own_rowG hC9
                        rw [e9] at hB9 ⊢
                        have hH105 : HP Tr w _ [.own (.slice pv1 B.length cp1) B.length (bL B) 4 1, .own (.slice pv9 (T ++ [tk]).length cp9) (T ++ [tk]).length (iL (T ++ [tk])) 3 1, .cel q #[.slice (some ⟨c, 0, none⟩) n n, vI (((h + 1) % n : Nat) : Int), vI (t : Int), vI (p : Int), vI 0, vI wo, vI tk] 129, .cel c (irow n C) 3, .cel b102 #[vI tk] 3] := HP.eq hB9 (by simp [iL])
                        have hH106 : HP Tr w _ [.own (.slice pv1 B.length cp1) B.length (bL B) 4 1, .own (.slice pv9 (T ++ [tk]).length cp9) (T ++ [tk]).length (iL (T ++ [tk])) 3 1, .cel q #[.slice (some ⟨c, 0, none⟩) n n, vI (((h + 1) % n : Nat) : Int), vI (t : Int), vI (p : Int), vI 0, vI wo, vI tk] 129, .cel c (irow n C) 3] := (HP.drop hH105 4)
                        refine WL.pure (v := .slice pv9 ((T ++ [tk]).length) cp9) 9 rfl (Nat.le_of_ble_eq_true rfl) rfl rfl (by kernel_rfl) ?_
                        refine WL.nil ?_
                        refine WQ.inNormal ?_
                        refine WQ.inNormal ?_
                        refine WQ.then ?_
                        refine hK29 _ _ _ ?_
                        refine WC.region ?_
                        refine WL.pure (v := vI ((i + 1 : Nat) : Int)) 127 rfl (Nat.le_of_ble_eq_true rfl) rfl rfl (x_add (Z := ((i + 1 : Nat) : Int)) rfl rfl rfl (by omega) (by omega) (by omega)) ?_
                        refine WL.pure (v := vI ((i + 1 : Nat) : Int)) 59 rfl (Nat.le_of_ble_eq_true rfl) rfl rfl (by kernel_rfl) ?_
                        refine WL.nil ?_
                        refine WQ.sub (l' := [(1, .slice ip R.length icap), (2, vI (tl)), (8, .slice pv1 B.length cp1), (9, .slice pv9 ((T ++ [tk]).length) cp9), (11, vP q 0), (57, .slice (some ⟨gs, os, none⟩) sc.length cq), (58, vI (sc.length : Int)), (59, vI ((i + 1 : Nat) : Int))]) ⟨rfl, rfl, rfl, rfl, rfl, rfl, rfl, rfl, trivial⟩ ?_
                        refine WQ.then (hK24 _ _ _ (by omega) ⟨i + 1, C, ((h + 1) % n), t, p, 0, wo, tk, B, (T ++ [tk]), (tl), pv1, cp1, pv9, cp9, ip, icap, R, rfl, rfl, by omega, by rw [zer_n hs0]; exact (hI.rTurn (by rw [← hn])), hp, .inl rfl, hR, hRin, hRc, hH106⟩)
                    ·
                      refine WC.region ?_
                      refine WL.pure (v := vP q 0) 64 rfl (Nat.le_of_ble_eq_true rfl) rfl rfl (by kernel_rfl) ?_
                      refine WL.call (f := 77) (args := #[vP q 0]) 65 rfl (Nat.le_of_ble_eq_true rfl) rfl rfl (by kernel_rfl) ?_
                      refine (Busy_any q c n C h t p k wo tk (decide (p ≠ 0)) (decide (k ≠ 0)) _ (HP.ownB (A := [Ent.own (.slice pv1 B.length cp1) B.length (bL B) 4 1, Ent.own (.slice pv2 T.length cp2) T.length (iL T) 3 1]) hH26) hn29 hh ht rfl rfl).mono ?_
                      rintro e w4 ⟨rfl, hb4⟩
                      refine ⟨_, rfl, ?_⟩
                      have hH107 : HP Tr w _ [.own (.slice pv1 B.length cp1) B.length (bL B) 4 1, .own (.slice pv2 T.length cp2) T.length (iL T) 3 1, .cel q #[.slice (some ⟨c, 0, none⟩) n n, vI (h : Int), vI (t : Int), vI (p : Int), vI (k : Int), vI wo, vI tk] 129, .cel c (irow n C) 3] := HP.call hH26 hb4
                      refine WL.pure (v := .tuple #[.bool (decide (p ≠ 0)), .bool (decide (k ≠ 0))]) 63 rfl (Nat.le_of_ble_eq_true rfl) rfl rfl (by kernel_rfl) ?_
                      refine WL.pure (v := .bool (decide (p ≠ 0))) 66 rfl (Nat.le_of_ble_eq_true rfl) rfl rfl (by kernel_rfl) ?_
                      refine WL.pure (v := .bool (decide (k ≠ 0))) 67 rfl (Nat.le_of_ble_eq_true rfl) rfl rfl (by kernel_rfl) ?_
                      refine WL.pure (v := .bool (decide (p ≠ 0))) 16 rfl (Nat.le_of_ble_eq_true rfl) rfl rfl (by kernel_rfl) ?_
                      refine WL.pure (v := .bool (decide (k ≠ 0))) 17 rfl (Nat.le_of_ble_eq_true rfl) rfl rfl (by kernel_rfl) ?_
                      refine WL.nil ?_
                      refine WQ.then ?_
                      refine hK31 _ _ _ ?_
                      refine WC.sub (l' := [(1, .slice ip R.length icap), (2, vI tl), (8, .slice pv1 B.length cp1), (9, .slice pv2 T.length cp2), (11, vP q 0), (15, vI (sc.getD i 0)), (16, .bool (decide (p ≠ 0))), (17, .bool (decide (k ≠ 0))), (57, .slice (some ⟨gs, os, none⟩) sc.length cq), (58, vI (sc.length : Int)), (59, vI (i : Int)), (60, .bool true)]) ⟨rfl, rfl, rfl, rfl, rfl, rfl, rfl, rfl, rfl, rfl, rfl, rfl, trivial⟩ ?_
                      refine WC.block ?_
                      refine WC.seq fun K108 hK108 => ?_
                      refine WC.region ?_
                      refine WL.pure (v := vI (sc.getD i 0)) 69 rfl (Nat.le_of_ble_eq_true rfl) rfl rfl (by kernel_rfl) ?_
                      refine WL.pure (v := .bool false) 70 rfl (Nat.le_of_ble_eq_true rfl) rfl rfl (x_eql rfl rfl rfl (dF (hs0))) ?_
                      refine WL.pure (v := .bool false) 71 rfl (Nat.le_of_ble_eq_true rfl) rfl rfl (by kernel_rfl) ?_
                      refine WL.pass 72 rfl (Nat.le_of_ble_eq_true rfl) rfl ?_
                      refine WL.pass 73 rfl (Nat.le_of_ble_eq_true rfl) rfl ?_
                      refine WL.pass 74 rfl (Nat.le_of_ble_eq_true rfl) rfl ?_
                      refine WL.pass 75 rfl (Nat.le_of_ble_eq_true rfl) rfl ?_
                      refine WL.pass 76 rfl (Nat.le_of_ble_eq_true rfl) rfl ?_
                      refine WL.pass 77 rfl (Nat.le_of_ble_eq_true rfl) rfl ?_
                      refine WL.pure (v := .bool false) 78 rfl (Nat.le_of_ble_eq_true rfl) rfl rfl (by kernel_rfl) ?_
                      refine WL.pure (v := .bool false) 68 rfl (Nat.le_of_ble_eq_true rfl) rfl rfl (by kernel_rfl) ?_
                      refine WL.nil ?_
                      refine WQ.then ?_
                      refine hK108 _ _ _ ?_
                      refine WC.sub (l' := [(1, .slice ip R.length icap), (2, vI tl), (8, .slice pv1 B.length cp1), (9, .slice pv2 T.length cp2), (11, vP q 0), (15, vI (sc.getD i 0)), (16, .bool (decide (p ≠ 0))), (17, .bool (decide (k ≠ 0))), (57, .slice (some ⟨gs, os, none⟩) sc.length cq), (58, vI (sc.length : Int)), (59, vI (i : Int)), (60, .bool true), (68, .bool false)]) ⟨rfl, rfl, rfl, rfl, rfl, rfl, rfl, rfl, rfl, rfl, rfl, rfl, rfl, trivial⟩ ?_
                      refine WC.no rfl ?_
                      refine WC.seq fun K109 hK109 => ?_
                      refine WC.region ?_
                      refine WL.pure (v := vI (sc.getD i 0)) 100 rfl (Nat.le_of_ble_eq_true rfl) rfl rfl (by kernel_rfl) ?_
                      refine WL.pure (v := .bool false) 101 rfl (Nat.le_of_ble_eq_true rfl) rfl rfl (x_eql rfl rfl rfl (dF (hs1))) ?_
                      refine WL.pure (v := .bool false) 102 rfl (Nat.le_of_ble_eq_true rfl) rfl rfl (by kernel_rfl) ?_
                      refine WL.pass 103 rfl (Nat.le_of_ble_eq_true rfl) rfl ?_
                      refine WL.pass 104 rfl (Nat.le_of_ble_eq_true rfl) rfl ?_
                      refine WL.pass 105 rfl (Nat.le_of_ble_eq_true rfl) rfl ?_
                      refine WL.pass 106 rfl (Nat.le_of_ble_eq_true rfl) rfl ?_
                      refine WL.pass 107 rfl (Nat.le_of_ble_eq_true rfl) rfl ?_
                      refine WL.pure (v := .bool false) 108 rfl (Nat.le_of_ble_eq_true rfl) rfl rfl (by kernel_rfl) ?_
                      refine WL.pure (v := .bool false) 99 rfl (Nat.le_of_ble_eq_true rfl) rfl rfl (by kernel_rfl) ?_
                      refine WL.nil ?_
                      refine WQ.then ?_
                      refine hK109 _ _ _ ?_
                      refine WC.sub (l' := [(1, .slice ip R.length icap), (2, vI tl), (8, .slice pv1 B.length cp1), (9, .slice pv2 T.length cp2), (11, vP q 0), (15, vI (sc.getD i 0)), (16, .bool (decide (p ≠ 0))), (17, .bool (decide (k ≠ 0))), (57, .slice (some ⟨gs, os, none⟩) sc.length cq), (58, vI (sc.length : Int)), (59, vI (i : Int)), (60, .bool true), (68, .bool false), (99, .bool false)]) ⟨rfl, rfl, rfl, rfl, rfl, rfl, rfl, rfl, rfl, rfl, rfl, rfl, rfl, rfl, trivial⟩ ?_
                      refine WC.no rfl ?_
                      refine WC.skip ?_
                      refine WQ.inNormal ?_
                      refine WQ.inNormal ?_
                      refine WQ.then ?_
                      refine hK29 _ _ _ ?_
                      refine WC.region ?_
                      refine WL.pure (v := vI ((i + 1 : Nat) : Int)) 127 rfl (Nat.le_of_ble_eq_true rfl) rfl rfl (x_add (Z := ((i + 1 : Nat) : Int)) rfl rfl rfl (by omega) (by omega) (by omega)) ?_
                      refine WL.pure (v := vI ((i + 1 : Nat) : Int)) 59 rfl (Nat.le_of_ble_eq_true rfl) rfl rfl (by kernel_rfl) ?_
                      refine WL.nil ?_
                      refine WQ.sub (l' := [(1, .slice ip R.length icap), (2, vI (tl)), (8, .slice pv1 B.length cp1), (9, .slice pv2 T.length cp2), (11, vP q 0), (57, .slice (some ⟨gs, os, none⟩) sc.length cq), (58, vI (sc.length : Int)), (59, vI ((i + 1 : Nat) : Int))]) ⟨rfl, rfl, rfl, rfl, rfl, rfl, rfl, rfl, trivial⟩ ?_
                      refine WQ.then (hK24 _ _ _ (by omega) ⟨i + 1, C, h, t, p, k, wo, tk, B, T, (tl), pv1, cp1, pv2, cp2, ip, icap, R, rfl, rfl, by omega, by rw [zer_n hs0]; exact (hI), hp, hk, hR, hRin, hRc, hH107⟩)
                ·
                  refine WL.pure (v := .bool false) 60 rfl (Nat.le_of_ble_eq_true rfl) rfl rfl (x_lss rfl rfl rfl (dF (hlt))) ?_
                  refine WL.nil ?_
                  refine WQ.then ?_
                  refine hK27 _ _ _ ?_
                  refine WC.seq fun K110 hK110 => ?_
                  refine WC.no rfl ?_
                  refine WC.exit ?_
                  refine WQ.thenExit ?_
                  refine WQ.thenExit ?_
                  refine WQ.inExit ?_
                  refine WQ.then ?_
                  refine hK21 _ _ _ ?_
                  refine WC.seq fun K111 hK111 => ?_
                  refine WC.region ?_
                  refine WL.pure (v := .slice pv1 B.length cp1) 128 rfl (Nat.le_of_ble_eq_true rfl) rfl rfl (by kernel_rfl) ?_
                  refine WL.pure (v := .slice pv2 T.length cp2) 129 rfl (Nat.le_of_ble_eq_true rfl) rfl rfl (by kernel_rfl) ?_
                  refine WL.pure (v := .slice pv1 B.length cp1) 8 rfl (Nat.le_of_ble_eq_true rfl) rfl rfl (by kernel_rfl) ?_
                  refine WL.pure (v := .slice pv2 T.length cp2) 9 rfl (Nat.le_of_ble_eq_true rfl) rfl rfl (by kernel_rfl) ?_
                  refine WL.pure (v := vI 0) 10 rfl (Nat.le_of_ble_eq_true rfl) rfl rfl (by kernel_rfl) ?_
                  refine WL.nil ?_
                  refine WQ.then ?_
                  refine hK111 _ _ _ ?_
                  refine WC.ret ?_
                  refine WQ.ret3 8 9 10 rfl rfl rfl rfl ?_
                  exact .inr ⟨B, T, pv1, cp1, pv2, cp2, m, rfl, by omega, by omega, hwdP, by omega, by have := hI.good; rwa [show i = sc.length by omega] at this, rfl, (HP.drop (HP.drop hH26 3) 2)⟩
          ·
            refine ⟨_, rfl, ?_⟩
            have hH112 : HP Tr w _ [.cel q #[.slice (some ⟨c, 0, none⟩) n n, vI 0, vI 0, vI 0, vI 0, vI 0, vI 0] 129, .cel c (irow n (fun _ => 0)) 3] := HP.call hH15 hb
            refine WL.pure (v := .bool true) 48 rfl (Nat.le_of_ble_eq_true rfl) rfl rfl (by kernel_rfl) ?_
            refine WL.nil ?_
            refine WQ.then ?_
            refine hK12 _ _ _ ?_
            refine WC.sub (l' := [(0, vI (m : Int)), (1, .slice p P.length cp), (2, vI K), (3, .slice q0 sc.length cq), (8, .slice none 0 0), (9, .slice none 0 0), (10, vI 0), (11, vP q 0), (12, vI 0), (13, .func (.func 73) #[] #[]), (48, .bool true)]) ⟨rfl, rfl, rfl, rfl, rfl, rfl, rfl, rfl, rfl, rfl, rfl, trivial⟩ ?_
            refine WC.yes rfl ?_
            refine WC.seq fun K113 hK113 => ?_
            refine WC.region ?_
            refine WL.pure (v := .slice none 0 0) 8 rfl (Nat.le_of_ble_eq_true rfl) rfl rfl (by kernel_rfl) ?_
            refine WL.pure (v := .slice none 0 0) 9 rfl (Nat.le_of_ble_eq_true rfl) rfl rfl (by kernel_rfl) ?_
            refine WL.pure (v := vI 1) 10 rfl (Nat.le_of_ble_eq_true rfl) rfl rfl (by kernel_rfl) ?_
            refine WL.nil ?_
            refine WQ.then ?_
            refine hK113 _ _ _ ?_
            refine WC.ret ?_
            refine WQ.thenRet ?_
            refine WQ.ret3 8 9 10 rfl rfl rfl rfl ?_
            exact .inl ⟨1, by decide, rfl, HP.below hH112⟩
        ·
          refine ⟨_, rfl, ?_⟩
          have hH114 : HP Tr w _ [.cel q #[.slice (some ⟨c, 0, none⟩) n n, vI 0, vI 0, vI 0, vI 0, vI 0, vI 0] 129, .cel c (irow n (fun _ => 0)) 3] := HP.call hH9 hb
          refine WL.pure (v := .bool true) 43 rfl (Nat.le_of_ble_eq_true rfl) rfl rfl (by kernel_rfl) ?_
          refine WL.pure (v := .bool true) 44 rfl (Nat.le_of_ble_eq_true rfl) rfl rfl (by kernel_rfl) ?_
          refine WL.pass 45 rfl (Nat.le_of_ble_eq_true rfl) rfl ?_
          refine WL.pass 46 rfl (Nat.le_of_ble_eq_true rfl) rfl ?_
          refine WL.pass 47 rfl (Nat.le_of_ble_eq_true rfl) rfl ?_
          refine WL.pure (v := .bool true) 48 rfl (Nat.le_of_ble_eq_true rfl) rfl rfl (by kernel_rfl) ?_
          refine WL.nil ?_
          refine WQ.then ?_
          refine hK12 _ _ _ ?_
          refine WC.sub (l' := [(0, vI (m : Int)), (1, .slice p P.length cp), (2, vI K), (3, .slice q0 sc.length cq), (8, .slice none 0 0), (9, .slice none 0 0), (10, vI 0), (11, vP q 0), (12, vI 0), (13, .func (.func 73) #[] #[]), (48, .bool true)]) ⟨rfl, rfl, rfl, rfl, rfl, rfl, rfl, rfl, rfl, rfl, rfl, trivial⟩ ?_
          refine WC.yes rfl ?_
          refine WC.seq fun K115 hK115 => ?_
          refine WC.region ?_
          refine WL.pure (v := .slice none 0 0) 8 rfl (Nat.le_of_ble_eq_true rfl) rfl rfl (by kernel_rfl) ?_
          refine WL.pure (v := .slice none 0 0) 9 rfl (Nat.le_of_ble_eq_true rfl) rfl rfl (by kernel_rfl) ?_
          refine WL.pure (v := vI 1) 10 rfl (Nat.le_of_ble_eq_true rfl) rfl rfl (by kernel_rfl) ?_
          refine WL.nil ?_
          refine WQ.then ?_
          refine hK115 _ _ _ ?_
          refine WC.ret ?_
          refine WQ.thenRet ?_
          refine WQ.ret3 8 9 10 rfl rfl rfl rfl ?_
          exact .inl ⟨1, by decide, rfl, HP.below hH114⟩
end Qp
end Go.Proofs.Ytgdfbpphfanocaa
