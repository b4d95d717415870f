/- Patterns of arrivals: events that are allowed. -/
import Derived.Test.YteckbfebemofmaaBE
set_option linter.unusedVariables false
set_option linter.unusedSimpArgs false
namespace Go.Proofs.Yteckbfebemofmaa
open Go.RowKit Fw
namespace Bs
abbrev eX (t : List T2) (i : Nat) : Int := (t.getD i (0, 0)).1
abbrev eY (t : List T2) (i : Nat) : Int := (t.getD i (0, 0)).2
theorem awithin_at {n a m : Int} (h : a ≤ n ∧ n ≤ m) (w : World) : Calls Try.prog 22 #[vI n, vI a, vI m] w fun e w' => e = .returned (.bool true) ∧ w = w' := by
  have q := awithin_any n a m w
  rw [decide_eq_true h.1, decide_eq_true h.2] at q; exact q
/-- events near enough -/
def EvOk (t : List T2) : Prop := ∀ i, i < t.length → (0 ≤ eX t i ∧ eX t i ≤ 1000000) ∧ 0 ≤ eY t i ∧ eY t i ≤ 1000000
/-- when the next event may be -/
def lsV (t : List T2) (g : Int) : Nat → Int
  | 0 => 0
  | k + 1 => eX t k + g
theorem sz28 : (Try.prog.info? 28).map (·.size) = some 1 := by kernel_rfl
theorem sz31 : (Try.prog.info? 31).map (·.size) = some 2 := by kernel_rfl
theorem sz35 : (Try.prog.info? 35).map (·.size) = some 3 := by kernel_rfl
theorem sz61 : (Try.prog.info? 61).map (·.size) = some 1 := by kernel_rfl
set_option maxRecDepth 20000 in
set_option maxHeartbeats 4000000 in
theorem far23_any (x y : Int) (w : World) (hx : 0 ≤ x ∧ x ≤ 1000000) (hy : 0 ≤ y ∧ y ≤ 1000000) :
    Calls Try.prog 23 #[.agg #[vI x, vI y]] w fun e w' => e = .returned (.bool false) ∧ Below w.heap.size w w' := by
  refine calls_of Try.func23 rfl (m := 13) rfl [(0, .agg #[vI x, vI y])] (Fr_enter [.agg #[vI x, vI y]] 13 (Nat.le_of_ble_eq_true rfl)) ?_
  have hH1 : HP Tr w w [] := HP.refl w
  refine WC.seq fun K2 hK2 => ?_
  refine WC.region ?_
  refine WL.alloc (c := #[vI x, vI y]) (T := 31) hH1 1 rfl (by decide) rfl rfl (fun b1 => vP b1 0) (by kernel_rfl) (fun b1 w3 hw3 => ?_)
  have hH4 : HP Tr w w3 [.cel b1 #[vI x, vI y] 31] := hw3.2
  have nb1 := hw3.1
  clear hw3
  refine WL.pure (v := .bool false) 2 rfl (Nat.le_of_ble_eq_true rfl) rfl rfl (by kernel_rfl) ?_
  refine WL.nil ?_
  refine WQ.then ?_
  refine hK2 _ _ _ ?_
  refine WC.seq fun K5 hK5 => ?_
  refine WC.region ?_
  refine WL.pure (v := vP b1 0) 3 rfl (Nat.le_of_ble_eq_true rfl) rfl rfl (x_idxArr (0) (0) rfl rfl rfl Try.underlying31 sz3 (by omega) (by omega) (by omega)) ?_
  refine WL.pure (v := vI x) 4 rfl (Nat.le_of_ble_eq_true rfl) rfl rfl (x_load rfl rfl Try.underlying3 rfl (HP.cell hH4 0 rfl rfl)) ?_
  refine WL.call (f := 22) (args := #[vI x, vI 0, vI 1000000]) 5 rfl (Nat.le_of_ble_eq_true rfl) rfl rfl (by kernel_rfl) ?_
  refine (awithin_at (hx) _).mono ?_
  rintro e w6 ⟨rfl, rfl⟩
  refine ⟨_, rfl, ?_⟩
  refine WL.pure (v := .bool false) 6 rfl (Nat.le_of_ble_eq_true rfl) rfl rfl (by kernel_rfl) ?_
  refine WL.pure (v := .bool false) 7 rfl (Nat.le_of_ble_eq_true rfl) rfl rfl (by kernel_rfl) ?_
  refine WL.pure (v := vP b1 1) 8 rfl (Nat.le_of_ble_eq_true rfl) rfl rfl (x_idxArr (1) (1) rfl rfl rfl Try.underlying31 sz3 (by omega) (by omega) (by omega)) ?_
  refine WL.pure (v := vI y) 9 rfl (Nat.le_of_ble_eq_true rfl) rfl rfl (x_load rfl rfl Try.underlying3 rfl (HP.cell hH4 0 rfl rfl)) ?_
  refine WL.call (f := 22) (args := #[vI y, vI 0, vI 1000000]) 10 rfl (Nat.le_of_ble_eq_true rfl) rfl rfl (by kernel_rfl) ?_
  refine (awithin_at (hy) _).mono ?_
  rintro e w7 ⟨rfl, rfl⟩
  refine ⟨_, rfl, ?_⟩
  refine WL.pure (v := .bool false) 11 rfl (Nat.le_of_ble_eq_true rfl) rfl rfl (by kernel_rfl) ?_
  refine WL.pure (v := .bool false) 12 rfl (Nat.le_of_ble_eq_true rfl) rfl rfl (by kernel_rfl) ?_
  refine WL.pure (v := .bool false) 2 rfl (Nat.le_of_ble_eq_true rfl) rfl rfl (by kernel_rfl) ?_
  refine WL.nil ?_
  refine WQ.then ?_
  refine hK5 _ _ _ ?_
  refine WC.sub (l' := [(0, .agg #[vI x, vI y]), (1, vP b1 0), (2, .bool false)]) ⟨rfl, rfl, rfl, trivial⟩ ?_
  refine WC.ret ?_
  refine WQ.ret1 2 rfl rfl ?_
  exact ⟨rfl, HP.below hH4⟩
set_option maxRecDepth 20000 in
set_option maxHeartbeats 4000000 in
theorem valid10_any (g : Int) (w : World) (hg : 1 ≤ g ∧ g ≤ 10000) :
    Calls Try.prog 10 #[.agg #[vI 0, vI g, vI 0]] w fun e w' => e = .returned (.bool true) ∧ Below w.heap.size w w' := by
  refine calls_of Try.func10 rfl (m := 16) rfl [(0, .agg #[vI 0, vI g, vI 0])] (Fr_enter [.agg #[vI 0, vI g, vI 0]] 16 (Nat.le_of_ble_eq_true rfl)) ?_
  have hH1 : HP Tr w w [] := HP.refl w
  refine WC.seq fun K2 hK2 => ?_
  refine WC.region ?_
  refine WL.alloc (c := #[vI 0, vI g, vI 0]) (T := 35) hH1 1 rfl (by decide) rfl rfl (fun b1 => vP b1 0) (by kernel_rfl) (fun b1 w3 hw3 => ?_)
  have hH4 : HP Tr w w3 [.cel b1 #[vI 0, vI g, vI 0] 35] := hw3.2
  have nb1 := hw3.1
  clear hw3
  refine WL.pure (v := .bool false) 2 rfl (Nat.le_of_ble_eq_true rfl) rfl rfl (by kernel_rfl) ?_
  refine WL.nil ?_
  refine WQ.then ?_
  refine hK2 _ _ _ ?_
  refine WC.seq fun K5 hK5 => ?_
  refine WC.region ?_
  refine WL.pure (v := vP b1 0) 3 rfl (Nat.le_of_ble_eq_true rfl) rfl rfl (by kernel_rfl) ?_
  refine WL.pure (v := vI 0) 4 rfl (Nat.le_of_ble_eq_true rfl) rfl rfl (x_load rfl rfl Try.underlying3 rfl (HP.cell hH4 0 rfl rfl)) ?_
  refine WL.call (f := 22) (args := #[vI 0, vI 0, vI 10000]) 5 rfl (Nat.le_of_ble_eq_true rfl) rfl rfl (by kernel_rfl) ?_
  refine (awithin_at (by decide) _).mono ?_
  rintro e w6 ⟨rfl, rfl⟩
  refine ⟨_, rfl, ?_⟩
  refine WL.pure (v := .bool true) 6 rfl (Nat.le_of_ble_eq_true rfl) rfl rfl (by kernel_rfl) ?_
  refine WL.pure (v := vP b1 1) 7 rfl (Nat.le_of_ble_eq_true rfl) rfl rfl (by kernel_rfl) ?_
  refine WL.pure (v := vI g) 8 rfl (Nat.le_of_ble_eq_true rfl) rfl rfl (x_load rfl rfl Try.underlying3 rfl (HP.cell hH4 0 rfl rfl)) ?_
  refine WL.call (f := 22) (args := #[vI g, vI 1, vI 10000]) 9 rfl (Nat.le_of_ble_eq_true rfl) rfl rfl (by kernel_rfl) ?_
  refine (awithin_at (hg) _).mono ?_
  rintro e w7 ⟨rfl, rfl⟩
  refine ⟨_, rfl, ?_⟩
  refine WL.pure (v := .bool true) 10 rfl (Nat.le_of_ble_eq_true rfl) rfl rfl (by kernel_rfl) ?_
  refine WL.pure (v := .bool true) 11 rfl (Nat.le_of_ble_eq_true rfl) rfl rfl (by kernel_rfl) ?_
  refine WL.pure (v := vP b1 2) 12 rfl (Nat.le_of_ble_eq_true rfl) rfl rfl (by kernel_rfl) ?_
  refine WL.pure (v := vI 0) 13 rfl (Nat.le_of_ble_eq_true rfl) rfl rfl (x_load rfl rfl Try.underlying3 rfl (HP.cell hH4 0 rfl rfl)) ?_
  refine WL.call (f := 22) (args := #[vI 0, vI 0, vI 10000]) 14 rfl (Nat.le_of_ble_eq_true rfl) rfl rfl (by kernel_rfl) ?_
  refine (awithin_at (by decide) _).mono ?_
  rintro e w8 ⟨rfl, rfl⟩
  refine ⟨_, rfl, ?_⟩
  refine WL.pure (v := .bool true) 15 rfl (Nat.le_of_ble_eq_true rfl) rfl rfl (by kernel_rfl) ?_
  refine WL.pure (v := .bool true) 2 rfl (Nat.le_of_ble_eq_true rfl) rfl rfl (by kernel_rfl) ?_
  refine WL.nil ?_
  refine WQ.then ?_
  refine hK5 _ _ _ ?_
  refine WC.sub (l' := [(0, .agg #[vI 0, vI g, vI 0]), (1, vP b1 0), (2, .bool true)]) ⟨rfl, rfl, rfl, trivial⟩ ?_
  refine WC.ret ?_
  refine WQ.ret1 2 rfl rfl ?_
  exact ⟨rfl, HP.below hH4⟩
set_option maxRecDepth 20000 in
set_option maxHeartbeats 4000000 in
theorem index41_any (p : Option Addr) (cap : Nat) (t : List T2) (w : World) (hT : InT w p t) (hok : EvOk t) (hl : t.length ≤ 40) :
    Calls Try.prog 41 #[.slice p t.length cap, .func (.func 23) #[] #[]] w fun e w' => e = .returned (.int .i64 (-1)) ∧ Below w.heap.size w w' := by
  refine calls_of Try.func41 rfl (m := 19) rfl [(0, .slice p t.length cap), (1, .func (.func 23) #[] #[])] (Fr_enter [.slice p t.length cap, .func (.func 23) #[] #[]] 19 (Nat.le_of_ble_eq_true rfl)) ?_
  have hH1 : HP Tr w w [] := HP.refl w
  refine WC.seq fun K2 hK2 => ?_
  refine WC.region ?_
  refine WL.pure (v := vI 0) 4 rfl (Nat.le_of_ble_eq_true rfl) rfl rfl (by kernel_rfl) ?_
  refine WL.nil ?_
  refine WQ.then ?_
  refine hK2 _ _ _ ?_
  refine WC.seq fun K3 hK3 => ?_
  refine WC.seq fun K4 hK4 => ?_
  refine WC.region ?_
  refine WL.pure (v := .slice p t.length cap) 6 rfl (Nat.le_of_ble_eq_true rfl) rfl rfl (by kernel_rfl) ?_
  refine WL.pure (v := vI (t.length : Int)) 7 rfl (Nat.le_of_ble_eq_true rfl) rfl rfl (by kernel_rfl) ?_
  refine WL.pure (v := vI 0) 8 rfl (Nat.le_of_ble_eq_true rfl) rfl rfl (by kernel_rfl) ?_
  refine WL.nil ?_
  refine WQ.then ?_
  refine hK4 _ _ _ ?_
  refine WC.block ?_
  refine WC.loop (fun kk0 ll0 ww0 => ∃ (k : Nat), ll0 = [(0, .slice p t.length cap), (1, .func (.func 23) #[] #[]), (7, vI (t.length : Int)), (8, vI (k : Int))] ∧ kk0 = t.length - k ∧ (k ≤ t.length) ∧ HP Tr w ww0 []) (t.length) [(0, .slice p t.length cap), (1, .func (.func 23) #[] #[]), (7, vI (t.length : Int)), (8, vI 0)] ⟨rfl, rfl, rfl, rfl, trivial⟩ ⟨0, rfl, rfl, Nat.zero_le _, hH1⟩ ?_
  rintro kk l w6 ⟨k, rfl, hkk, hk, hH7⟩ K5 hK5
  refine WC.seq fun K8 hK8 => ?_
  refine WC.region ?_
  by_cases hlt : (k : Int) < (t.length : Int)
  ·
    refine WL.pure (v := .bool true) 9 rfl (Nat.le_of_ble_eq_true rfl) rfl rfl (x_lss rfl rfl rfl (dT (hlt))) ?_
    refine WL.nil ?_
    refine WQ.then ?_
    refine hK8 _ _ _ ?_
    refine WC.seq fun K9 hK9 => ?_
    refine WC.yes rfl ?_
    refine WC.skip ?_
    refine WQ.then ?_
    refine hK9 _ _ _ ?_
    refine WC.seq fun K10 hK10 => ?_
    refine WC.block ?_
    refine WC.seq fun K11 hK11 => ?_
    refine WC.region ?_
    refine WL.pure (v := vI (k : Int)) 10 rfl (Nat.le_of_ble_eq_true rfl) rfl rfl (by kernel_rfl) ?_
    refine WL.pure (v := vI (k : Int)) 5 rfl (Nat.le_of_ble_eq_true rfl) rfl rfl (by kernel_rfl) ?_
    refine WL.nil ?_
    refine WQ.then ?_
    refine hK11 _ _ _ ?_
    refine WC.seq fun K12 hK12 => ?_
    obtain ⟨ge, oe, rfl, hrow⟩ := hT (by omega)
    obtain ⟨q1, q2⟩ := hok k (by omega)
    refine WC.region ?_
    refine WL.pure (v := .func (.func 23) #[] #[]) 11 rfl (Nat.le_of_ble_eq_true rfl) rfl rfl (by kernel_rfl) ?_
    refine WL.pure (v := .slice (some ⟨ge, oe, none⟩) t.length cap) 12 rfl (Nat.le_of_ble_eq_true rfl) rfl rfl (by kernel_rfl) ?_
    refine WL.pure (v := vI (k : Int)) 13 rfl (Nat.le_of_ble_eq_true rfl) rfl rfl (by kernel_rfl) ?_
    refine WL.pure (v := vP ge (oe + k * 2)) 14 rfl (Nat.le_of_ble_eq_true rfl) rfl rfl (x_idx (k) (oe + k * 2) rfl rfl rfl Try.underlying28 sz31 (by omega) (by omega) (by omega)) ?_
    refine WL.pure (v := .agg #[vI (eX t k), vI (eY t k)]) 15 rfl (Nat.le_of_ble_eq_true rfl) rfl rfl (x_loadS (cs := [vI (eX t k), vI (eY t k)]) rfl rfl Try.underlying31 rfl sz31 (HP.oldRange hH7 trivial (hrow k (by omega)))) ?_
    refine WL.call (f := 23) (args := #[.agg #[vI (eX t k), vI (eY t k)]]) 16 rfl (Nat.le_of_ble_eq_true rfl) rfl rfl (by kernel_rfl) ?_
    refine (far23_any _ _ _ q1 q2).mono ?_
    rintro e w13 ⟨rfl, hb14⟩
    refine ⟨_, rfl, ?_⟩
    have hH15 : HP Tr w _ [] := HP.call hH7 hb14
    refine WL.nil ?_
    refine WQ.then ?_
    refine hK12 _ _ _ ?_
    refine WC.sub (l' := [(0, .slice (some ⟨ge, oe, none⟩) t.length cap), (1, .func (.func 23) #[] #[]), (5, vI (k : Int)), (7, vI (t.length : Int)), (8, vI (k : Int)), (9, .bool true), (16, .bool false)]) ⟨rfl, rfl, rfl, rfl, rfl, rfl, rfl, trivial⟩ ?_
    refine WC.no rfl ?_
    refine WC.skip ?_
    refine WQ.inNormal ?_
    refine WQ.then ?_
    refine hK10 _ _ _ ?_
    refine WC.region ?_
    refine WL.pure (v := vI ((k + 1 : Nat) : Int)) 18 rfl (Nat.le_of_ble_eq_true rfl) rfl rfl (x_add (Z := ((k + 1 : Nat) : Int)) rfl rfl rfl (by omega) (by omega) (by omega)) ?_
    refine WL.pure (v := vI ((k + 1 : Nat) : Int)) 8 rfl (Nat.le_of_ble_eq_true rfl) rfl rfl (by kernel_rfl) ?_
    refine WL.nil ?_
    refine WQ.sub (l' := [(0, .slice (some ⟨ge, oe, none⟩) t.length cap), (1, .func (.func 23) #[] #[]), (7, vI (t.length : Int)), (8, vI ((k + 1 : Nat) : Int))]) ⟨rfl, rfl, rfl, rfl, trivial⟩ ?_
    refine WQ.then (hK5 _ _ _ (by omega) ⟨k + 1, rfl, rfl, by omega, hH15⟩)
  ·
    refine WL.pure (v := .bool false) 9 rfl (Nat.le_of_ble_eq_true rfl) rfl rfl (x_lss rfl rfl rfl (dF (hlt))) ?_
    refine WL.nil ?_
    refine WQ.then ?_
    refine hK8 _ _ _ ?_
    refine WC.seq fun K16 hK16 => ?_
    refine WC.no rfl ?_
    refine WC.exit ?_
    refine WQ.thenExit ?_
    refine WQ.thenExit ?_
    refine WQ.inExit ?_
    refine WQ.then ?_
    refine hK3 _ _ _ ?_
    refine WC.seq fun K17 hK17 => ?_
    refine WC.region ?_
    refine WL.pure (v := vI (-1)) 4 rfl (Nat.le_of_ble_eq_true rfl) rfl rfl (by kernel_rfl) ?_
    refine WL.nil ?_
    refine WQ.then ?_
    refine hK17 _ _ _ ?_
    refine WC.ret ?_
    refine WQ.ret1 4 rfl rfl ?_
    exact ⟨rfl, HP.below hH7⟩
set_option maxRecDepth 20000 in
set_option maxHeartbeats 4000000 in
theorem contains27_any (p : Option Addr) (cap : Nat) (t : List T2) (w : World) (hT : InT w p t) (hok : EvOk t) (hl : t.length ≤ 40) :
    Calls Try.prog 27 #[.slice p t.length cap, .func (.func 23) #[] #[]] w fun e w' => e = .returned (.bool false) ∧ Below w.heap.size w w' := by
  refine calls_of Try.func27 rfl (m := 9) rfl [(0, .slice p t.length cap), (1, .func (.func 23) #[] #[])] (Fr_enter [.slice p t.length cap, .func (.func 23) #[] #[]] 9 (Nat.le_of_ble_eq_true rfl)) ?_
  have hH1 : HP Tr w w [] := HP.refl w
  refine WC.seq fun K2 hK2 => ?_
  refine WC.region ?_
  refine WL.pure (v := .bool false) 4 rfl (Nat.le_of_ble_eq_true rfl) rfl rfl (by kernel_rfl) ?_
  refine WL.nil ?_
  refine WQ.then ?_
  refine hK2 _ _ _ ?_
  refine WC.seq fun K3 hK3 => ?_
  refine WC.region ?_
  refine WL.pure (v := .slice p t.length cap) 5 rfl (Nat.le_of_ble_eq_true rfl) rfl rfl (by kernel_rfl) ?_
  refine WL.pure (v := .func (.func 23) #[] #[]) 6 rfl (Nat.le_of_ble_eq_true rfl) rfl rfl (by kernel_rfl) ?_
  refine WL.call (f := 41) (args := #[.slice p t.length cap, .func (.func 23) #[] #[]]) 7 rfl (Nat.le_of_ble_eq_true rfl) rfl rfl (by kernel_rfl) ?_
  refine (index41_any p cap t _ (hT.below (HP.below hH1)) hok hl).mono ?_
  rintro e w4 ⟨rfl, hb5⟩
  refine ⟨_, rfl, ?_⟩
  have hH6 : HP Tr w _ [] := HP.call hH1 hb5
  refine WL.pure (v := .bool false) 8 rfl (Nat.le_of_ble_eq_true rfl) rfl rfl (x_geq rfl rfl rfl (by decide)) ?_
  refine WL.pure (v := .bool false) 4 rfl (Nat.le_of_ble_eq_true rfl) rfl rfl (by kernel_rfl) ?_
  refine WL.nil ?_
  refine WQ.then ?_
  refine hK3 _ _ _ ?_
  refine WC.ret ?_
  refine WQ.ret1 4 rfl rfl ?_
  exact ⟨rfl, HP.below hH6⟩
set_option maxRecDepth 20000 in
set_option maxHeartbeats 4000000 in
theorem chk26_any (b3 : Nat) (p : Option Addr) (cap : Nat) (t : List T2) (w : World) (hT : InT w p t) (hok : EvOk t) (hl : t.length ≤ 40) (hcap : ∀ i, i < 1 → w.rangeAt b3 0 [.func (.func 23) #[] #[]]) :
    Calls Try.prog 26 #[.slice p t.length cap, vP b3 0] w fun e w' => e = .returned (.bool false) ∧ Below w.heap.size w w' := by
  refine calls_of Try.func26 rfl (m := 7) rfl [(0, .slice p t.length cap), (1, vP b3 0)] (Fr_enter [.slice p t.length cap, vP b3 0] 7 (Nat.le_of_ble_eq_true rfl)) ?_
  have hH1 : HP Tr w w [] := HP.refl w
  refine WC.seq fun K2 hK2 => ?_
  refine WC.region ?_
  refine WL.pure (v := .bool false) 3 rfl (Nat.le_of_ble_eq_true rfl) rfl rfl (by kernel_rfl) ?_
  refine WL.nil ?_
  refine WQ.then ?_
  refine hK2 _ _ _ ?_
  refine WC.seq fun K3 hK3 => ?_
  refine WC.region ?_
  refine WL.pure (v := .slice p t.length cap) 4 rfl (Nat.le_of_ble_eq_true rfl) rfl rfl (by kernel_rfl) ?_
  refine WL.pure (v := .func (.func 23) #[] #[]) 5 rfl (Nat.le_of_ble_eq_true rfl) rfl rfl (x_load rfl rfl Try.underlying61 rfl ((HP.oldRange hH1 trivial (hcap 0 (by omega))) 0 _ rfl)) ?_
  refine WL.call (f := 27) (args := #[.slice p t.length cap, .func (.func 23) #[] #[]]) 6 rfl (Nat.le_of_ble_eq_true rfl) rfl rfl (by kernel_rfl) ?_
  refine (contains27_any p cap t _ (hT.below (HP.below hH1)) hok hl).mono ?_
  rintro e w4 ⟨rfl, hb5⟩
  refine ⟨_, rfl, ?_⟩
  have hH6 : HP Tr w _ [] := HP.call hH1 hb5
  refine WL.pure (v := .bool false) 3 rfl (Nat.le_of_ble_eq_true rfl) rfl rfl (by kernel_rfl) ?_
  refine WL.nil ?_
  refine WQ.then ?_
  refine hK3 _ _ _ ?_
  refine WC.ret ?_
  refine WQ.ret1 3 rfl rfl ?_
  exact ⟨rfl, HP.below hH6⟩
set_option maxRecDepth 20000 in
set_option maxHeartbeats 4000000 in
theorem chk24_any (p : Option Addr) (cap : Nat) (t : List T2) (w : World) (hT : InT w p t) (hok : EvOk t) (hl : t.length ≤ 40) :
    Calls Try.prog 24 #[.slice p t.length cap] w fun e w' => e = .returned (.bool false) ∧ Below w.heap.size w w' := by
  refine calls_of Try.func24 rfl (m := 6) rfl [(0, .slice p t.length cap)] (Fr_enter [.slice p t.length cap] 6 (Nat.le_of_ble_eq_true rfl)) ?_
  have hH1 : HP Tr w w [] := HP.refl w
  refine WC.seq fun K2 hK2 => ?_
  refine WC.region ?_
  refine WL.pure (v := .bool false) 2 rfl (Nat.le_of_ble_eq_true rfl) rfl rfl (by kernel_rfl) ?_
  refine WL.nil ?_
  refine WQ.then ?_
  refine hK2 _ _ _ ?_
  refine WC.seq fun K3 hK3 => ?_
  refine WC.region ?_
  refine WL.pure (v := .slice p t.length cap) 3 rfl (Nat.le_of_ble_eq_true rfl) rfl rfl (by kernel_rfl) ?_
  refine WL.pure (v := vI (t.length : Int)) 4 rfl (Nat.le_of_ble_eq_true rfl) rfl rfl (by kernel_rfl) ?_
  refine WL.pure (v := .bool false) 5 rfl (Nat.le_of_ble_eq_true rfl) rfl rfl (x_gtr rfl rfl rfl (dF (by omega))) ?_
  refine WL.pure (v := .bool false) 2 rfl (Nat.le_of_ble_eq_true rfl) rfl rfl (by kernel_rfl) ?_
  refine WL.nil ?_
  refine WQ.then ?_
  refine hK3 _ _ _ ?_
  refine WC.ret ?_
  refine WQ.ret1 2 rfl rfl ?_
  exact ⟨rfl, HP.below hH1⟩
set_option maxRecDepth 20000 in
set_option maxHeartbeats 4000000 in
theorem index40a_any (b3 bl : Nat) (p : Option Addr) (cap : Nat) (t : List T2) (w : World) (hT : InT w p t) (hok : EvOk t) (hl : t.length ≤ 40) (hcap : ∀ i, i < 1 → w.rangeAt b3 0 [.func (.func 23) #[] #[]]) (hls : ∀ i, i < 1 → w.rangeAt bl (0 + i) [.slice p t.length cap]) :
    Calls Try.prog 40 #[vS bl 1 1, .func (.func 26) #[] #[vP b3 0]] w fun e w' => e = .returned (.int .i64 (-1)) ∧ Below w.heap.size w w' := by
  refine calls_of Try.func40 rfl (m := 19) rfl [(0, vS bl 1 1), (1, .func (.func 26) #[] #[vP b3 0])] (Fr_enter [vS bl 1 1, .func (.func 26) #[] #[vP b3 0]] 19 (Nat.le_of_ble_eq_true rfl)) ?_
  have hH1 : HP Tr w w [] := HP.refl w
  refine WC.seq fun K2 hK2 => ?_
  refine WC.region ?_
  refine WL.pure (v := vI 0) 4 rfl (Nat.le_of_ble_eq_true rfl) rfl rfl (by kernel_rfl) ?_
  refine WL.nil ?_
  refine WQ.then ?_
  refine hK2 _ _ _ ?_
  refine WC.seq fun K3 hK3 => ?_
  refine WC.seq fun K4 hK4 => ?_
  refine WC.region ?_
  refine WL.pure (v := vS bl 1 1) 6 rfl (Nat.le_of_ble_eq_true rfl) rfl rfl (by kernel_rfl) ?_
  refine WL.pure (v := vI 1) 7 rfl (Nat.le_of_ble_eq_true rfl) rfl rfl (by kernel_rfl) ?_
  refine WL.pure (v := vI 0) 8 rfl (Nat.le_of_ble_eq_true rfl) rfl rfl (by kernel_rfl) ?_
  refine WL.nil ?_
  refine WQ.then ?_
  refine hK4 _ _ _ ?_
  refine WC.block ?_
  refine WC.loop (fun kk0 ll0 ww0 => ∃ (k : Nat), ll0 = [(0, vS bl 1 1), (1, .func (.func 26) #[] #[vP b3 0]), (7, vI 1), (8, vI (k : Int))] ∧ kk0 = 1 - k ∧ (k ≤ 1) ∧ HP Tr w ww0 []) (1) [(0, vS bl 1 1), (1, .func (.func 26) #[] #[vP b3 0]), (7, vI 1), (8, vI 0)] ⟨rfl, rfl, rfl, rfl, trivial⟩ ⟨0, rfl, rfl, Nat.zero_le _, hH1⟩ ?_
  rintro kk l w6 ⟨k, rfl, hkk, hk, hH7⟩ K5 hK5
  refine WC.seq fun K8 hK8 => ?_
  refine WC.region ?_
  by_cases hlt : (k : Int) < 1
  ·
    refine WL.pure (v := .bool true) 9 rfl (Nat.le_of_ble_eq_true rfl) rfl rfl (x_lss rfl rfl rfl (dT (hlt))) ?_
    refine WL.nil ?_
    refine WQ.then ?_
    refine hK8 _ _ _ ?_
    refine WC.seq fun K9 hK9 => ?_
    refine WC.yes rfl ?_
    refine WC.skip ?_
    refine WQ.then ?_
    refine hK9 _ _ _ ?_
    refine WC.seq fun K10 hK10 => ?_
    refine WC.block ?_
    refine WC.seq fun K11 hK11 => ?_
    refine WC.region ?_
    refine WL.pure (v := vI (k : Int)) 10 rfl (Nat.le_of_ble_eq_true rfl) rfl rfl (by kernel_rfl) ?_
    refine WL.pure (v := vI (k : Int)) 5 rfl (Nat.le_of_ble_eq_true rfl) rfl rfl (by kernel_rfl) ?_
    refine WL.nil ?_
    refine WQ.then ?_
    refine hK11 _ _ _ ?_
    refine WC.seq fun K12 hK12 => ?_
    refine WC.region ?_
    refine WL.pure (v := .func (.func 26) #[] #[vP b3 0]) 11 rfl (Nat.le_of_ble_eq_true rfl) rfl rfl (by kernel_rfl) ?_
    refine WL.pure (v := vS bl 1 1) 12 rfl (Nat.le_of_ble_eq_true rfl) rfl rfl (by kernel_rfl) ?_
    refine WL.pure (v := vI (k : Int)) 13 rfl (Nat.le_of_ble_eq_true rfl) rfl rfl (by kernel_rfl) ?_
    refine WL.pure (v := vP bl (0 + k)) 14 rfl (Nat.le_of_ble_eq_true rfl) rfl rfl (x_idx (b := bl) (off := 0) k (0 + k) rfl rfl rfl Try.underlying60 sz28 (by omega) (by omega) (by omega)) ?_
    refine WL.pure (v := .slice p t.length cap) 15 rfl (Nat.le_of_ble_eq_true rfl) rfl rfl (x_load rfl rfl Try.underlying28 rfl ((HP.oldRange hH7 trivial (hls k (by omega))) 0 _ rfl)) ?_
    refine WL.call (f := 26) (args := #[.slice p t.length cap, vP b3 0]) 16 rfl (Nat.le_of_ble_eq_true rfl) rfl rfl (by kernel_rfl) ?_
    refine (chk26_any b3 p cap t _ (hT.below (HP.below hH7)) hok hl (fun i hi => HP.oldRange hH7 trivial (hcap i hi))).mono ?_
    rintro e w13 ⟨rfl, hb14⟩
    refine ⟨_, rfl, ?_⟩
    have hH15 : HP Tr w _ [] := HP.call hH7 hb14
    refine WL.nil ?_
    refine WQ.then ?_
    refine hK12 _ _ _ ?_
    refine WC.sub (l' := [(0, vS bl 1 1), (1, .func (.func 26) #[] #[vP b3 0]), (5, vI (k : Int)), (7, vI 1), (8, vI (k : Int)), (9, .bool true), (16, .bool false)]) ⟨rfl, rfl, rfl, rfl, rfl, rfl, rfl, trivial⟩ ?_
    refine WC.no rfl ?_
    refine WC.skip ?_
    refine WQ.inNormal ?_
    refine WQ.then ?_
    refine hK10 _ _ _ ?_
    refine WC.region ?_
    refine WL.pure (v := vI ((k + 1 : Nat) : Int)) 18 rfl (Nat.le_of_ble_eq_true rfl) rfl rfl (x_add (Z := ((k + 1 : Nat) : Int)) rfl rfl rfl (by omega) (by omega) (by omega)) ?_
    refine WL.pure (v := vI ((k + 1 : Nat) : Int)) 8 rfl (Nat.le_of_ble_eq_true rfl) rfl rfl (by kernel_rfl) ?_
    refine WL.nil ?_
    refine WQ.sub (l' := [(0, vS bl 1 1), (1, .func (.func 26) #[] #[vP b3 0]), (7, vI 1), (8, vI ((k + 1 : Nat) : Int))]) ⟨rfl, rfl, rfl, rfl, trivial⟩ ?_
    refine WQ.then (hK5 _ _ _ (by omega) ⟨k + 1, rfl, rfl, by omega, hH15⟩)
  ·
    refine WL.pure (v := .bool false) 9 rfl (Nat.le_of_ble_eq_true rfl) rfl rfl (x_lss rfl rfl rfl (dF (hlt))) ?_
    refine WL.nil ?_
    refine WQ.then ?_
    refine hK8 _ _ _ ?_
    refine WC.seq fun K16 hK16 => ?_
    refine WC.no rfl ?_
    refine WC.exit ?_
    refine WQ.thenExit ?_
    refine WQ.thenExit ?_
    refine WQ.inExit ?_
    refine WQ.then ?_
    refine hK3 _ _ _ ?_
    refine WC.seq fun K17 hK17 => ?_
    refine WC.region ?_
    refine WL.pure (v := vI (-1)) 4 rfl (Nat.le_of_ble_eq_true rfl) rfl rfl (by kernel_rfl) ?_
    refine WL.nil ?_
    refine WQ.then ?_
    refine hK17 _ _ _ ?_
    refine WC.ret ?_
    refine WQ.ret1 4 rfl rfl ?_
    exact ⟨rfl, HP.below hH7⟩
set_option maxRecDepth 20000 in
set_option maxHeartbeats 4000000 in
theorem contains25a_any (b3 bl : Nat) (p : Option Addr) (cap : Nat) (t : List T2) (w : World) (hT : InT w p t) (hok : EvOk t) (hl : t.length ≤ 40) (hcap : ∀ i, i < 1 → w.rangeAt b3 0 [.func (.func 23) #[] #[]]) (hls : ∀ i, i < 1 → w.rangeAt bl (0 + i) [.slice p t.length cap]) :
    Calls Try.prog 25 #[vS bl 1 1, .func (.func 26) #[] #[vP b3 0]] w fun e w' => e = .returned (.bool false) ∧ Below w.heap.size w w' := by
  refine calls_of Try.func25 rfl (m := 9) rfl [(0, vS bl 1 1), (1, .func (.func 26) #[] #[vP b3 0])] (Fr_enter [vS bl 1 1, .func (.func 26) #[] #[vP b3 0]] 9 (Nat.le_of_ble_eq_true rfl)) ?_
  have hH1 : HP Tr w w [] := HP.refl w
  refine WC.seq fun K2 hK2 => ?_
  refine WC.region ?_
  refine WL.pure (v := .bool false) 4 rfl (Nat.le_of_ble_eq_true rfl) rfl rfl (by kernel_rfl) ?_
  refine WL.nil ?_
  refine WQ.then ?_
  refine hK2 _ _ _ ?_
  refine WC.seq fun K3 hK3 => ?_
  refine WC.region ?_
  refine WL.pure (v := vS bl 1 1) 5 rfl (Nat.le_of_ble_eq_true rfl) rfl rfl (by kernel_rfl) ?_
  refine WL.pure (v := .func (.func 26) #[] #[vP b3 0]) 6 rfl (Nat.le_of_ble_eq_true rfl) rfl rfl (by kernel_rfl) ?_
  refine WL.call (f := 40) (args := #[vS bl 1 1, .func (.func 26) #[] #[vP b3 0]]) 7 rfl (Nat.le_of_ble_eq_true rfl) rfl rfl (by kernel_rfl) ?_
  refine (index40a_any b3 bl p cap t _ (hT.below (HP.below hH1)) hok hl (fun i hi => HP.oldRange hH1 trivial (hcap i hi)) (fun i hi => HP.oldRange hH1 trivial (hls i hi))).mono ?_
  rintro e w4 ⟨rfl, hb5⟩
  refine ⟨_, rfl, ?_⟩
  have hH6 : HP Tr w _ [] := HP.call hH1 hb5
  refine WL.pure (v := .bool false) 8 rfl (Nat.le_of_ble_eq_true rfl) rfl rfl (x_geq rfl rfl rfl (by decide)) ?_
  refine WL.pure (v := .bool false) 4 rfl (Nat.le_of_ble_eq_true rfl) rfl rfl (by kernel_rfl) ?_
  refine WL.nil ?_
  refine WQ.then ?_
  refine hK3 _ _ _ ?_
  refine WC.ret ?_
  refine WQ.ret1 4 rfl rfl ?_
  exact ⟨rfl, HP.below hH6⟩
set_option maxRecDepth 20000 in
set_option maxHeartbeats 4000000 in
theorem index40b_any (b3 bl : Nat) (p : Option Addr) (cap : Nat) (t : List T2) (w : World) (hT : InT w p t) (hok : EvOk t) (hl : t.length ≤ 40) (hcap : ∀ i, i < 1 → w.rangeAt b3 0 [.func (.func 23) #[] #[]]) (hls : ∀ i, i < 1 → w.rangeAt bl (0 + i) [.slice p t.length cap]) :
    Calls Try.prog 40 #[vS bl 1 1, .func (.func 24) #[] #[]] w fun e w' => e = .returned (.int .i64 (-1)) ∧ Below w.heap.size w w' := by
  refine calls_of Try.func40 rfl (m := 19) rfl [(0, vS bl 1 1), (1, .func (.func 24) #[] #[])] (Fr_enter [vS bl 1 1, .func (.func 24) #[] #[]] 19 (Nat.le_of_ble_eq_true rfl)) ?_
  have hH1 : HP Tr w w [] := HP.refl w
  refine WC.seq fun K2 hK2 => ?_
  refine WC.region ?_
  refine WL.pure (v := vI 0) 4 rfl (Nat.le_of_ble_eq_true rfl) rfl rfl (by kernel_rfl) ?_
  refine WL.nil ?_
  refine WQ.then ?_
  refine hK2 _ _ _ ?_
  refine WC.seq fun K3 hK3 => ?_
  refine WC.seq fun K4 hK4 => ?_
  refine WC.region ?_
  refine WL.pure (v := vS bl 1 1) 6 rfl (Nat.le_of_ble_eq_true rfl) rfl rfl (by kernel_rfl) ?_
  refine WL.pure (v := vI 1) 7 rfl (Nat.le_of_ble_eq_true rfl) rfl rfl (by kernel_rfl) ?_
  refine WL.pure (v := vI 0) 8 rfl (Nat.le_of_ble_eq_true rfl) rfl rfl (by kernel_rfl) ?_
  refine WL.nil ?_
  refine WQ.then ?_
  refine hK4 _ _ _ ?_
  refine WC.block ?_
  refine WC.loop (fun kk0 ll0 ww0 => ∃ (k : Nat), ll0 = [(0, vS bl 1 1), (1, .func (.func 24) #[] #[]), (7, vI 1), (8, vI (k : Int))] ∧ kk0 = 1 - k ∧ (k ≤ 1) ∧ HP Tr w ww0 []) (1) [(0, vS bl 1 1), (1, .func (.func 24) #[] #[]), (7, vI 1), (8, vI 0)] ⟨rfl, rfl, rfl, rfl, trivial⟩ ⟨0, rfl, rfl, Nat.zero_le _, hH1⟩ ?_
  rintro kk l w6 ⟨k, rfl, hkk, hk, hH7⟩ K5 hK5
  refine WC.seq fun K8 hK8 => ?_
  refine WC.region ?_
  by_cases hlt : (k : Int) < 1
  ·
    refine WL.pure (v := .bool true) 9 rfl (Nat.le_of_ble_eq_true rfl) rfl rfl (x_lss rfl rfl rfl (dT (hlt))) ?_
    refine WL.nil ?_
    refine WQ.then ?_
    refine hK8 _ _ _ ?_
    refine WC.seq fun K9 hK9 => ?_
    refine WC.yes rfl ?_
    refine WC.skip ?_
    refine WQ.then ?_
    refine hK9 _ _ _ ?_
    refine WC.seq fun K10 hK10 => ?_
    refine WC.block ?_
    refine WC.seq fun K11 hK11 => ?_
    refine WC.region ?_
    refine WL.pure (v := vI (k : Int)) 10 rfl (Nat.le_of_ble_eq_true rfl) rfl rfl (by kernel_rfl) ?_
    refine WL.pure (v := vI (k : Int)) 5 rfl (Nat.le_of_ble_eq_true rfl) rfl rfl (by kernel_rfl) ?_
    refine WL.nil ?_
    refine WQ.then ?_
    refine hK11 _ _ _ ?_
    refine WC.seq fun K12 hK12 => ?_
    refine WC.region ?_
    refine WL.pure (v := .func (.func 24) #[] #[]) 11 rfl (Nat.le_of_ble_eq_true rfl) rfl rfl (by kernel_rfl) ?_
    refine WL.pure (v := vS bl 1 1) 12 rfl (Nat.le_of_ble_eq_true rfl) rfl rfl (by kernel_rfl) ?_
    refine WL.pure (v := vI (k : Int)) 13 rfl (Nat.le_of_ble_eq_true rfl) rfl rfl (by kernel_rfl) ?_
    refine WL.pure (v := vP bl (0 + k)) 14 rfl (Nat.le_of_ble_eq_true rfl) rfl rfl (x_idx (b := bl) (off := 0) k (0 + k) rfl rfl rfl Try.underlying60 sz28 (by omega) (by omega) (by omega)) ?_
    refine WL.pure (v := .slice p t.length cap) 15 rfl (Nat.le_of_ble_eq_true rfl) rfl rfl (x_load rfl rfl Try.underlying28 rfl ((HP.oldRange hH7 trivial (hls k (by omega))) 0 _ rfl)) ?_
    refine WL.call (f := 24) (args := #[.slice p t.length cap]) 16 rfl (Nat.le_of_ble_eq_true rfl) rfl rfl (by kernel_rfl) ?_
    refine (chk24_any p cap t _ (hT.below (HP.below hH7)) hok hl).mono ?_
    rintro e w13 ⟨rfl, hb14⟩
    refine ⟨_, rfl, ?_⟩
    have hH15 : HP Tr w _ [] := HP.call hH7 hb14
    refine WL.nil ?_
    refine WQ.then ?_
    refine hK12 _ _ _ ?_
    refine WC.sub (l' := [(0, vS bl 1 1), (1, .func (.func 24) #[] #[]), (5, vI (k : Int)), (7, vI 1), (8, vI (k : Int)), (9, .bool true), (16, .bool false)]) ⟨rfl, rfl, rfl, rfl, rfl, rfl, rfl, trivial⟩ ?_
    refine WC.no rfl ?_
    refine WC.skip ?_
    refine WQ.inNormal ?_
    refine WQ.then ?_
    refine hK10 _ _ _ ?_
    refine WC.region ?_
    refine WL.pure (v := vI ((k + 1 : Nat) : Int)) 18 rfl (Nat.le_of_ble_eq_true rfl) rfl rfl (x_add (Z := ((k + 1 : Nat) : Int)) rfl rfl rfl (by omega) (by omega) (by omega)) ?_
    refine WL.pure (v := vI ((k + 1 : Nat) : Int)) 8 rfl (Nat.le_of_ble_eq_true rfl) rfl rfl (by kernel_rfl) ?_
    refine WL.nil ?_
    refine WQ.sub (l' := [(0, vS bl 1 1), (1, .func (.func 24) #[] #[]), (7, vI 1), (8, vI ((k + 1 : Nat) : Int))]) ⟨rfl, rfl, rfl, rfl, trivial⟩ ?_
    refine WQ.then (hK5 _ _ _ (by omega) ⟨k + 1, rfl, rfl, by omega, hH15⟩)
  ·
    refine WL.pure (v := .bool false) 9 rfl (Nat.le_of_ble_eq_true rfl) rfl rfl (x_lss rfl rfl rfl (dF (hlt))) ?_
    refine WL.nil ?_
    refine WQ.then ?_
    refine hK8 _ _ _ ?_
    refine WC.seq fun K16 hK16 => ?_
    refine WC.no rfl ?_
    refine WC.exit ?_
    refine WQ.thenExit ?_
    refine WQ.thenExit ?_
    refine WQ.inExit ?_
    refine WQ.then ?_
    refine hK3 _ _ _ ?_
    refine WC.seq fun K17 hK17 => ?_
    refine WC.region ?_
    refine WL.pure (v := vI (-1)) 4 rfl (Nat.le_of_ble_eq_true rfl) rfl rfl (by kernel_rfl) ?_
    refine WL.nil ?_
    refine WQ.then ?_
    refine hK17 _ _ _ ?_
    refine WC.ret ?_
    refine WQ.ret1 4 rfl rfl ?_
    exact ⟨rfl, HP.below hH7⟩
set_option maxRecDepth 20000 in
set_option maxHeartbeats 4000000 in
theorem contains25b_any (b3 bl : Nat) (p : Option Addr) (cap : Nat) (t : List T2) (w : World) (hT : InT w p t) (hok : EvOk t) (hl : t.length ≤ 40) (hcap : ∀ i, i < 1 → w.rangeAt b3 0 [.func (.func 23) #[] #[]]) (hls : ∀ i, i < 1 → w.rangeAt bl (0 + i) [.slice p t.length cap]) :
    Calls Try.prog 25 #[vS bl 1 1, .func (.func 24) #[] #[]] w fun e w' => e = .returned (.bool false) ∧ Below w.heap.size w w' := by
  refine calls_of Try.func25 rfl (m := 9) rfl [(0, vS bl 1 1), (1, .func (.func 24) #[] #[])] (Fr_enter [vS bl 1 1, .func (.func 24) #[] #[]] 9 (Nat.le_of_ble_eq_true rfl)) ?_
  have hH1 : HP Tr w w [] := HP.refl w
  refine WC.seq fun K2 hK2 => ?_
  refine WC.region ?_
  refine WL.pure (v := .bool false) 4 rfl (Nat.le_of_ble_eq_true rfl) rfl rfl (by kernel_rfl) ?_
  refine WL.nil ?_
  refine WQ.then ?_
  refine hK2 _ _ _ ?_
  refine WC.seq fun K3 hK3 => ?_
  refine WC.region ?_
  refine WL.pure (v := vS bl 1 1) 5 rfl (Nat.le_of_ble_eq_true rfl) rfl rfl (by kernel_rfl) ?_
  refine WL.pure (v := .func (.func 24) #[] #[]) 6 rfl (Nat.le_of_ble_eq_true rfl) rfl rfl (by kernel_rfl) ?_
  refine WL.call (f := 40) (args := #[vS bl 1 1, .func (.func 24) #[] #[]]) 7 rfl (Nat.le_of_ble_eq_true rfl) rfl rfl (by kernel_rfl) ?_
  refine (index40b_any b3 bl p cap t _ (hT.below (HP.below hH1)) hok hl (fun i hi => HP.oldRange hH1 trivial (hcap i hi)) (fun i hi => HP.oldRange hH1 trivial (hls i hi))).mono ?_
  rintro e w4 ⟨rfl, hb5⟩
  refine ⟨_, rfl, ?_⟩
  have hH6 : HP Tr w _ [] := HP.call hH1 hb5
  refine WL.pure (v := .bool false) 8 rfl (Nat.le_of_ble_eq_true rfl) rfl rfl (x_geq rfl rfl rfl (by decide)) ?_
  refine WL.pure (v := .bool false) 4 rfl (Nat.le_of_ble_eq_true rfl) rfl rfl (by kernel_rfl) ?_
  refine WL.nil ?_
  refine WQ.then ?_
  refine hK3 _ _ _ ?_
  refine WC.ret ?_
  refine WQ.ret1 4 rfl rfl ?_
  exact ⟨rfl, HP.below hH6⟩
set_option maxRecDepth 20000 in
set_option maxHeartbeats 4000000 in
theorem check_any (bl : Nat) (p : Option Addr) (cap : Nat) (t : List T2) (w : World) (hT : InT w p t) (hok : EvOk t) (hl : t.length ≤ 40) (hls : ∀ i, i < 1 → w.rangeAt bl (0 + i) [.slice p t.length cap]) :
    Calls Try.prog 11 #[vS bl 1 1] w fun e w' => e = .returned (.int .i64 0) ∧ Below w.heap.size w w' := by
  refine calls_of Try.func11 rfl (m := 13) rfl [(0, vS bl 1 1)] (Fr_enter [vS bl 1 1] 13 (Nat.le_of_ble_eq_true rfl)) ?_
  have hH1 : HP Tr w w [] := HP.refl w
  refine WC.seq fun K2 hK2 => ?_
  refine WC.region ?_
  refine WL.pure (v := vI 0) 2 rfl (Nat.le_of_ble_eq_true rfl) rfl rfl (by kernel_rfl) ?_
  refine WL.nil ?_
  refine WQ.then ?_
  refine hK2 _ _ _ ?_
  refine WC.seq fun K3 hK3 => ?_
  refine WC.region ?_
  refine WL.alloc (c := #[.nilFunc]) (T := 61) hH1 3 rfl (by decide) rfl rfl (fun b3 => vP b3 0) (by kernel_rfl) (fun b3 w4 hw4 => ?_)
  have hH5 : HP Tr w w4 [.cel b3 #[.nilFunc] 61] := hw4.2
  have nb3 := hw4.1
  clear hw4
  refine WL.store (H2 := [.cel b3 #[.func (.func 23) #[] #[]] 61]) 0 hH5 rfl rfl rfl rfl rfl rfl sz61 rfl (Nat.le_of_ble_eq_true rfl) rfl rfl ?_
  intro w6 hH7
  refine WL.nil ?_
  refine WQ.then ?_
  refine hK3 _ _ _ ?_
  refine WC.seq fun K8 hK8 => ?_
  refine WC.region ?_
  refine WL.pure (v := .func (.func 24) #[] #[]) 4 rfl (Nat.le_of_ble_eq_true rfl) rfl rfl (by kernel_rfl) ?_
  refine WL.nil ?_
  refine WQ.then ?_
  refine hK8 _ _ _ ?_
  refine WC.seq fun K9 hK9 => ?_
  refine WC.block ?_
  refine WC.seq fun K10 hK10 => ?_
  refine WC.region ?_
  refine WL.pure (v := vS bl 1 1) 6 rfl (Nat.le_of_ble_eq_true rfl) rfl rfl (by kernel_rfl) ?_
  refine WL.pure (v := .func (.func 26) #[] #[vP b3 0]) 7 rfl (Nat.le_of_ble_eq_true rfl) rfl rfl (by kernel_rfl) ?_
  refine WL.call (f := 25) (args := #[vS bl 1 1, .func (.func 26) #[] #[vP b3 0]]) 8 rfl (Nat.le_of_ble_eq_true rfl) rfl rfl (by kernel_rfl) ?_
  refine (contains25a_any b3 bl p cap t _ (hT.below (HP.below hH7)) hok hl (fun i hi => HP.range hH7 0 rfl rfl) (fun i hi => HP.oldRange hH7 trivial (hls i hi))).mono ?_
  rintro e w11 ⟨rfl, hb12⟩
  refine ⟨_, rfl, ?_⟩
  have hH13 : HP Tr w _ [.cel b3 #[.func (.func 23) #[] #[]] 61] := HP.call hH7 hb12
  refine WL.pure (v := .bool false) 5 rfl (Nat.le_of_ble_eq_true rfl) rfl rfl (by kernel_rfl) ?_
  refine WL.nil ?_
  refine WQ.then ?_
  refine hK10 _ _ _ ?_
  refine WC.no rfl ?_
  refine WC.seq fun K14 hK14 => ?_
  refine WC.region ?_
  refine WL.pure (v := vS bl 1 1) 10 rfl (Nat.le_of_ble_eq_true rfl) rfl rfl (by kernel_rfl) ?_
  refine WL.pure (v := .func (.func 24) #[] #[]) 11 rfl (Nat.le_of_ble_eq_true rfl) rfl rfl (by kernel_rfl) ?_
  refine WL.call (f := 25) (args := #[vS bl 1 1, .func (.func 24) #[] #[]]) 12 rfl (Nat.le_of_ble_eq_true rfl) rfl rfl (by kernel_rfl) ?_
  refine (contains25b_any b3 bl p cap t _ (hT.below (HP.below hH13)) hok hl (fun i hi => HP.range hH13 0 rfl rfl) (fun i hi => HP.oldRange hH13 trivial (hls i hi))).mono ?_
  rintro e w15 ⟨rfl, hb16⟩
  refine ⟨_, rfl, ?_⟩
  have hH17 : HP Tr w _ [.cel b3 #[.func (.func 23) #[] #[]] 61] := HP.call hH13 hb16
  refine WL.pure (v := .bool false) 9 rfl (Nat.le_of_ble_eq_true rfl) rfl rfl (by kernel_rfl) ?_
  refine WL.nil ?_
  refine WQ.then ?_
  refine hK14 _ _ _ ?_
  refine WC.sub (l' := [(0, vS bl 1 1), (2, vI 0), (3, vP b3 0), (4, .func (.func 24) #[] #[]), (5, .bool false), (9, .bool false)]) ⟨rfl, rfl, rfl, rfl, rfl, rfl, trivial⟩ ?_
  refine WC.no rfl ?_
  refine WC.skip ?_
  refine WQ.inNormal ?_
  refine WQ.then ?_
  refine hK9 _ _ _ ?_
  refine WC.seq fun K18 hK18 => ?_
  refine WC.region ?_
  refine WL.pure (v := vI 0) 2 rfl (Nat.le_of_ble_eq_true rfl) rfl rfl (by kernel_rfl) ?_
  refine WL.nil ?_
  refine WQ.then ?_
  refine hK18 _ _ _ ?_
  refine WC.ret ?_
  refine WQ.ret1 2 rfl rfl ?_
  exact ⟨rfl, HP.below hH17⟩
theorem one0 {w : World} {b : Nat} {cs : List Value} (h : w.rangeAt b 0 cs) : ∀ i, i < 1 → w.rangeAt b (0 + i) cs := fun i hi => by
  have e0 : i = 0 := by omega
  subst e0; exact h
set_option maxRecDepth 20000 in
set_option maxHeartbeats 4000000 in
theorem Allowed_any (g : Int) (p : Option Addr) (cap : Nat) (t : List T2) (w : World) (hT : InT w p t) (hok : EvOk t) (hl : t.length ≤ 40) (hg : 1 ≤ g ∧ g ≤ 10000) (hy : ∀ i, i < t.length → eY t i = 0) (hd : ∀ i, i < t.length → lsV t g i ≤ eX t i) :
    Calls Try.prog 5 #[.agg #[vI 0, vI g, vI 0], .slice p t.length cap] w fun e w' => e = .returned (.tuple #[.bool true, vI 0]) ∧ Below w.heap.size w w' := by
  refine calls_of Try.func5 rfl (m := 44) rfl [(0, .agg #[vI 0, vI g, vI 0]), (1, .slice p t.length cap)] (Fr_enter [.agg #[vI 0, vI g, vI 0], .slice p t.length cap] 44 (Nat.le_of_ble_eq_true rfl)) ?_
  have hH1 : HP Tr w w [] := HP.refl w
  refine WC.seq fun K2 hK2 => ?_
  refine WC.region ?_
  refine WL.alloc (c := #[vI 0, vI g, vI 0]) (T := 35) hH1 2 rfl (by decide) rfl rfl (fun b2 => vP b2 0) (by kernel_rfl) (fun b2 w3 hw3 => ?_)
  have hH4 : HP Tr w w3 [.cel b2 #[vI 0, vI g, vI 0] 35] := hw3.2
  have nb2 := hw3.1
  clear hw3
  refine WL.pure (v := .bool false) 4 rfl (Nat.le_of_ble_eq_true rfl) rfl rfl (by kernel_rfl) ?_
  refine WL.pure (v := vI 0) 5 rfl (Nat.le_of_ble_eq_true rfl) rfl rfl (by kernel_rfl) ?_
  refine WL.nil ?_
  refine WQ.then ?_
  refine hK2 _ _ _ ?_
  refine WC.seq fun K5 hK5 => ?_
  refine WC.seq fun K6 hK6 => ?_
  refine WC.region ?_
  refine WL.pure (v := .agg #[vI 0, vI g, vI 0]) 10 rfl (Nat.le_of_ble_eq_true rfl) rfl rfl (x_loadS (cs := [vI 0, vI g, vI 0]) rfl rfl Try.underlying35 rfl sz35 (HP.range hH4 0 rfl rfl)) ?_
  refine WL.call (f := 10) (args := #[.agg #[vI 0, vI g, vI 0]]) 11 rfl (Nat.le_of_ble_eq_true rfl) rfl rfl (by kernel_rfl) ?_
  refine (valid10_any g _ hg).mono ?_
  rintro e w7 ⟨rfl, hb8⟩
  refine ⟨_, rfl, ?_⟩
  have hH9 : HP Tr w _ [.cel b2 #[vI 0, vI g, vI 0] 35] := HP.call hH4 hb8
  refine WL.pure (v := .bool false) 12 rfl (Nat.le_of_ble_eq_true rfl) rfl rfl (by kernel_rfl) ?_
  refine WL.nil ?_
  refine WQ.then ?_
  refine hK6 _ _ _ ?_
  refine WC.no rfl ?_
  refine WC.skip ?_
  refine WQ.then ?_
  refine hK5 _ _ _ ?_
  refine WC.seq fun K10 hK10 => ?_
  refine WC.seq fun K11 hK11 => ?_
  refine WC.region ?_
  refine WL.pure (v := .slice p t.length cap) 13 rfl (Nat.le_of_ble_eq_true rfl) rfl rfl (by kernel_rfl) ?_
  refine WL.alloc (c := #[.slice p t.length cap]) (T := 28) hH9 14 rfl (by decide) rfl rfl (fun b14 => vS b14 1 1) (by kernel_rfl) (fun b14 w12 hw12 => ?_)
  have hH13 : HP Tr w w12 [.cel b2 #[vI 0, vI g, vI 0] 35, .cel b14 #[.slice p t.length cap] 28] := hw12.2
  have nb14 := hw12.1
  clear hw12
  refine WL.call (f := 11) (args := #[vS b14 1 1]) 15 rfl (Nat.le_of_ble_eq_true rfl) rfl rfl (by kernel_rfl) ?_
  refine (check_any b14 p cap t _ (hT.below (HP.below hH13)) hok hl (fun i hi => one0 (HP.range hH13 1 rfl rfl) i hi)).mono ?_
  rintro e w14 ⟨rfl, hb15⟩
  refine ⟨_, rfl, ?_⟩
  have hH16 : HP Tr w _ [.cel b2 #[vI 0, vI g, vI 0] 35, .cel b14 #[.slice p t.length cap] 28] := HP.call hH13 hb15
  refine WL.pure (v := vI 0) 6 rfl (Nat.le_of_ble_eq_true rfl) rfl rfl (by kernel_rfl) ?_
  refine WL.nil ?_
  refine WQ.then ?_
  refine hK11 _ _ _ ?_
  refine WC.seq fun K17 hK17 => ?_
  refine WC.region ?_
  refine WL.pure (v := vI 0) 16 rfl (Nat.le_of_ble_eq_true rfl) rfl rfl (by kernel_rfl) ?_
  refine WL.pure (v := .bool false) 17 rfl (Nat.le_of_ble_eq_true rfl) rfl rfl (x_neq rfl rfl rfl (by decide)) ?_
  refine WL.nil ?_
  refine WQ.then ?_
  refine hK17 _ _ _ ?_
  refine WC.sub (l' := [(0, .agg #[vI 0, vI g, vI 0]), (1, .slice p t.length cap), (2, vP b2 0), (4, .bool false), (5, vI 0), (6, vI 0), (12, .bool false), (17, .bool false)]) ⟨rfl, rfl, rfl, rfl, rfl, rfl, rfl, rfl, trivial⟩ ?_
  refine WC.no rfl ?_
  refine WC.skip ?_
  refine WQ.then ?_
  refine hK10 _ _ _ ?_
  refine WC.seq fun K18 hK18 => ?_
  refine WC.region ?_
  refine WL.pure (v := vP b2 0) 19 rfl (Nat.le_of_ble_eq_true rfl) rfl rfl (by kernel_rfl) ?_
  refine WL.pure (v := vI 0) 20 rfl (Nat.le_of_ble_eq_true rfl) rfl rfl (x_load rfl rfl Try.underlying3 rfl (HP.cell hH16 0 rfl rfl)) ?_
  refine WL.pure (v := vI 0) 7 rfl (Nat.le_of_ble_eq_true rfl) rfl rfl (by kernel_rfl) ?_
  refine WL.nil ?_
  refine WQ.then ?_
  refine hK18 _ _ _ ?_
  refine WC.seq fun K19 hK19 => ?_
  refine WC.seq fun K20 hK20 => ?_
  refine WC.region ?_
  refine WL.pure (v := .slice p t.length cap) 21 rfl (Nat.le_of_ble_eq_true rfl) rfl rfl (by kernel_rfl) ?_
  refine WL.pure (v := vI (t.length : Int)) 22 rfl (Nat.le_of_ble_eq_true rfl) rfl rfl (by kernel_rfl) ?_
  refine WL.pure (v := vI 0) 23 rfl (Nat.le_of_ble_eq_true rfl) rfl rfl (by kernel_rfl) ?_
  refine WL.nil ?_
  refine WQ.then ?_
  refine hK20 _ _ _ ?_
  refine WC.block ?_
  refine WC.loop (fun kk0 ll0 ww0 => ∃ (k : Nat), ll0 = [(2, vP b2 0), (7, vI (lsV t g k)), (21, .slice p t.length cap), (22, vI (t.length : Int)), (23, vI (k : Int))] ∧ kk0 = t.length - k ∧ (k ≤ t.length) ∧ HP Tr w ww0 [.cel b2 #[vI 0, vI g, vI 0] 35]) (t.length) [(2, vP b2 0), (7, vI 0), (21, .slice p t.length cap), (22, vI (t.length : Int)), (23, vI 0)] ⟨rfl, rfl, rfl, rfl, rfl, trivial⟩ ⟨0, rfl, rfl, Nat.zero_le _, (HP.drop hH16 1)⟩ ?_
  rintro kk l w22 ⟨k, rfl, hkk, hk, hH23⟩ K21 hK21
  refine WC.seq fun K24 hK24 => ?_
  refine WC.region ?_
  by_cases hlt : (k : Int) < (t.length : Int)
  ·
    refine WL.pure (v := .bool true) 24 rfl (Nat.le_of_ble_eq_true rfl) rfl rfl (x_lss rfl rfl rfl (dT (hlt))) ?_
    refine WL.nil ?_
    refine WQ.then ?_
    refine hK24 _ _ _ ?_
    refine WC.seq fun K25 hK25 => ?_
    refine WC.yes rfl ?_
    refine WC.skip ?_
    refine WQ.then ?_
    refine hK25 _ _ _ ?_
    refine WC.seq fun K26 hK26 => ?_
    refine WC.block ?_
    refine WC.seq fun K27 hK27 => ?_
    obtain ⟨ge, oe, rfl, hrow⟩ := hT (by omega)
    have hdk := hd k (by omega)
    have hyk := hy k (by omega)
    obtain ⟨q1, q2⟩ := hok k (by omega)
    refine WC.region ?_
    refine WL.pure (v := vP ge (oe + k * 2)) 25 rfl (Nat.le_of_ble_eq_true rfl) rfl rfl (x_idx (k) (oe + k * 2) rfl rfl rfl Try.underlying28 sz31 (by omega) (by omega) (by omega)) ?_
    refine WL.pure (v := .agg #[vI (eX t k), vI (eY t k)]) 26 rfl (Nat.le_of_ble_eq_true rfl) rfl rfl (x_loadS (cs := [vI (eX t k), vI (eY t k)]) rfl rfl Try.underlying31 rfl sz31 (HP.oldRange hH23 trivial (hrow k (by omega)))) ?_
    refine WL.alloc (c := #[vI 0, vI 0]) (T := 31) hH23 9 rfl (by decide) rfl rfl (fun b9 => vP b9 0) (by kernel_rfl) (fun b9 w28 hw28 => ?_)
    have hH29 : HP Tr w w28 [.cel b2 #[vI 0, vI g, vI 0] 35, .cel b9 #[vI 0, vI 0] 31] := hw28.2
    have nb9 := hw28.1
    clear hw28
    refine WL.storeS (H2 := [.cel b2 #[vI 0, vI g, vI 0] 35, .cel b9 #[vI (eX t k), vI (eY t k)] 31]) 1 hH29 rfl rfl rfl rfl rfl rfl sz31 rfl (Nat.le_of_ble_eq_true rfl) rfl rfl ?_
    intro w30 hH31
    refine WL.nil ?_
    refine WQ.then ?_
    refine hK27 _ _ _ ?_
    refine WC.seq fun K32 hK32 => ?_
    refine WC.seq fun K33 hK33 => ?_
    refine WC.region ?_
    refine WL.pure (v := vP b9 0) 27 rfl (Nat.le_of_ble_eq_true rfl) rfl rfl (x_idxArr (0) (0) rfl rfl rfl Try.underlying31 sz3 (by omega) (by omega) (by omega)) ?_
    refine WL.pure (v := vI (eX t k)) 28 rfl (Nat.le_of_ble_eq_true rfl) rfl rfl (x_load rfl rfl Try.underlying3 rfl (HP.cell hH31 1 rfl rfl)) ?_
    refine WL.pure (v := vI (lsV t g k)) 29 rfl (Nat.le_of_ble_eq_true rfl) rfl rfl (by kernel_rfl) ?_
    refine WL.pure (v := .bool false) 30 rfl (Nat.le_of_ble_eq_true rfl) rfl rfl (x_lss rfl rfl rfl (dF (by omega))) ?_
    refine WL.pure (v := .bool false) 31 rfl (Nat.le_of_ble_eq_true rfl) rfl rfl (by kernel_rfl) ?_
    refine WL.pure (v := vP b9 1) 32 rfl (Nat.le_of_ble_eq_true rfl) rfl rfl (x_idxArr (1) (1) rfl rfl rfl Try.underlying31 sz3 (by omega) (by omega) (by omega)) ?_
    refine WL.pure (v := vI (eY t k)) 33 rfl (Nat.le_of_ble_eq_true rfl) rfl rfl (x_load rfl rfl Try.underlying3 rfl (HP.cell hH31 1 rfl rfl)) ?_
    refine WL.pure (v := vP b2 2) 34 rfl (Nat.le_of_ble_eq_true rfl) rfl rfl (by kernel_rfl) ?_
    refine WL.pure (v := vI 0) 35 rfl (Nat.le_of_ble_eq_true rfl) rfl rfl (x_load rfl rfl Try.underlying3 rfl (HP.cell hH31 0 rfl rfl)) ?_
    refine WL.pure (v := .bool false) 36 rfl (Nat.le_of_ble_eq_true rfl) rfl rfl (x_gtr rfl rfl rfl (dF (by omega))) ?_
    refine WL.pure (v := .bool false) 37 rfl (Nat.le_of_ble_eq_true rfl) rfl rfl (by kernel_rfl) ?_
    refine WL.nil ?_
    refine WQ.then ?_
    refine hK33 _ _ _ ?_
    refine WC.sub (l' := [(2, vP b2 0), (7, vI (lsV t g k)), (9, vP b9 0), (21, .slice (some ⟨ge, oe, none⟩) t.length cap), (22, vI (t.length : Int)), (23, vI (k : Int)), (24, .bool true), (37, .bool false)]) ⟨rfl, rfl, rfl, rfl, rfl, rfl, rfl, rfl, trivial⟩ ?_
    refine WC.no rfl ?_
    refine WC.skip ?_
    refine WQ.then ?_
    refine hK32 _ _ _ ?_
    refine WC.region ?_
    refine WL.pure (v := vP b9 0) 38 rfl (Nat.le_of_ble_eq_true rfl) rfl rfl (x_idxArr (0) (0) rfl rfl rfl Try.underlying31 sz3 (by omega) (by omega) (by omega)) ?_
    refine WL.pure (v := vI (eX t k)) 39 rfl (Nat.le_of_ble_eq_true rfl) rfl rfl (x_load rfl rfl Try.underlying3 rfl (HP.cell hH31 1 rfl rfl)) ?_
    refine WL.pure (v := vP b2 1) 40 rfl (Nat.le_of_ble_eq_true rfl) rfl rfl (by kernel_rfl) ?_
    refine WL.pure (v := vI g) 41 rfl (Nat.le_of_ble_eq_true rfl) rfl rfl (x_load rfl rfl Try.underlying3 rfl (HP.cell hH31 0 rfl rfl)) ?_
    refine WL.pure (v := vI (lsV t g (k + 1))) 42 rfl (Nat.le_of_ble_eq_true rfl) rfl rfl (x_add (Z := (lsV t g (k + 1))) rfl rfl rfl (rfl) (by show _ ≤ eX t k + g; omega) (by show eX t k + g ≤ _; omega)) ?_
    refine WL.pure (v := vI (lsV t g (k + 1))) 7 rfl (Nat.le_of_ble_eq_true rfl) rfl rfl (by kernel_rfl) ?_
    refine WL.nil ?_
    refine WQ.inNormal ?_
    refine WQ.then ?_
    refine hK26 _ _ _ ?_
    refine WC.sub (l' := [(2, vP b2 0), (7, vI (lsV t g (k + 1))), (9, vP b9 0), (21, .slice (some ⟨ge, oe, none⟩) t.length cap), (22, vI (t.length : Int)), (23, vI (k : Int)), (24, .bool true), (37, .bool false)]) ⟨rfl, rfl, rfl, rfl, rfl, rfl, rfl, rfl, trivial⟩ ?_
    refine WC.region ?_
    refine WL.pure (v := vI ((k + 1 : Nat) : Int)) 43 rfl (Nat.le_of_ble_eq_true rfl) rfl rfl (x_add (Z := ((k + 1 : Nat) : Int)) rfl rfl rfl (by omega) (by omega) (by omega)) ?_
    refine WL.pure (v := vI ((k + 1 : Nat) : Int)) 23 rfl (Nat.le_of_ble_eq_true rfl) rfl rfl (by kernel_rfl) ?_
    refine WL.nil ?_
    refine WQ.sub (l' := [(2, vP b2 0), (7, vI (lsV t g (k + 1))), (21, .slice (some ⟨ge, oe, none⟩) t.length cap), (22, vI (t.length : Int)), (23, vI ((k + 1 : Nat) : Int))]) ⟨rfl, rfl, rfl, rfl, rfl, trivial⟩ ?_
    refine WQ.then (hK21 _ _ _ (by omega) ⟨k + 1, rfl, rfl, by omega, (HP.drop hH31 1)⟩)
  ·
    refine WL.pure (v := .bool false) 24 rfl (Nat.le_of_ble_eq_true rfl) rfl rfl (x_lss rfl rfl rfl (dF (hlt))) ?_
    refine WL.nil ?_
    refine WQ.then ?_
    refine hK24 _ _ _ ?_
    refine WC.seq fun K34 hK34 => ?_
    refine WC.no rfl ?_
    refine WC.exit ?_
    refine WQ.thenExit ?_
    refine WQ.thenExit ?_
    refine WQ.inExit ?_
    refine WQ.then ?_
    refine hK19 _ _ _ ?_
    refine WC.seq fun K35 hK35 => ?_
    refine WC.region ?_
    refine WL.pure (v := .bool true) 4 rfl (Nat.le_of_ble_eq_true rfl) rfl rfl (by kernel_rfl) ?_
    refine WL.pure (v := vI 0) 5 rfl (Nat.le_of_ble_eq_true rfl) rfl rfl (by kernel_rfl) ?_
    refine WL.nil ?_
    refine WQ.then ?_
    refine hK35 _ _ _ ?_
    refine WC.ret ?_
    refine WQ.ret2 4 5 rfl rfl rfl ?_
    exact ⟨rfl, HP.below hH23⟩
end Bs
end Go.Proofs.Yteckbfebemofmaa
