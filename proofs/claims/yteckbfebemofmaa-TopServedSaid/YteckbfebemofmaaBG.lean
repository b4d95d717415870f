/- The reference's End: whether it has an error. -/
import Derived.Test.YteckbfebemofmaaBF
set_option linter.unusedVariables false
set_option linter.unusedSimpArgs false
namespace Go.Proofs.Yteckbfebemofmaa
open Go.RowKit Fw
namespace Bs
theorem take_snoc {xs : List Int} {i : Nat} (h : i < xs.length) : xs.take (i + 1) = xs.take i ++ [xs.getD i 0] := by
  rw [List.take_add_one, List.getElem?_eq_getElem h, List.getD_eq_getElem?_getD, List.getElem?_eq_getElem h]; rfl
theorem cnt_yes {l : List Int} {m : Int} {i k : Nat} (hi : i < l.length) (hk : k = (posI (l.take i) m).length) (h : l.getD i 0 = m) : k + 1 = (posI (l.take (i + 1)) m).length := by
  rw [take_snoc hi, posI_add h, List.length_append, hk]; rfl
theorem cnt_no {l : List Int} {m : Int} {i k : Nat} (hi : i < l.length) (hk : k = (posI (l.take i) m).length) (h : l.getD i 0 ≠ m) : k = (posI (l.take (i + 1)) m).length := by
  rw [take_snoc hi, posI_same h, hk]
/-- how far it is to a tick -/
def ds (i0 F y : Nat) : Nat := (i0 + F - y % F) % F
theorem ds_lt {i0 F y : Nat} (hF : 0 < F) : ds i0 F y < F := Nat.mod_lt _ hF
theorem ds_step {i0 F y : Nat} (hi : i0 < F) (h : y % F ≠ i0) : ds i0 F (y + 1) + 1 = ds i0 F y := by
  have hr := Nat.mod_lt y (show 0 < F by omega)
  have e1 : (y + 1) % F = if y % F + 1 = F then 0 else y % F + 1 := by
    have e0 : (y + 1) % F = (y % F + 1) % F := by rw [Nat.mod_add_mod]
    rw [e0]
    split
    · rename_i q; rw [q, Nat.mod_self]
    · exact Nat.mod_eq_of_lt (by omega)
  unfold ds
  rw [e1]
  generalize y % F = r at hr h
  have sub : ∀ a, F ≤ a → a < 2 * F → a % F = a - F := fun a h1 h2 => by rw [Nat.mod_eq_sub_mod h1, Nat.mod_eq_of_lt (by omega)]
  split
  · rename_i q
    rw [sub (i0 + F - 0) (by omega) (by omega), Nat.mod_eq_of_lt (show i0 + F - r < F by omega)]; omega
  · by_cases hlt : r < i0
    · rw [sub (i0 + F - (r + 1)) (by omega) (by omega), sub (i0 + F - r) (by omega) (by omega)]; omega
    · rw [Nat.mod_eq_of_lt (show i0 + F - (r + 1) < F by omega), Nat.mod_eq_of_lt (show i0 + F - r < F by omega)]; omega
theorem tmodN {y F : Nat} : ((y : Nat) : Int).tmod (F : Int) = ((y % F : Nat) : Int) := by
  rw [Int.tmod_eq_emod_of_nonneg (by omega)]; rfl
theorem sz30 : (Try.prog.info? 30).map (·.size) = some 3 := by kernel_rfl
set_option maxRecDepth 20000 in
set_option maxHeartbeats 4000000 in
theorem rvalid_any (p : Option Addr) (N cap : Nat) (o sp : Nat → Int) (w : World) (hS : InS w p N o sp) (hok : 1 ≤ N ∧ N ≤ 8 ∧ ∀ i, i < N → okS1 (o i) (sp i) = true) :
    Calls Try.prog 42 #[.slice p N cap] w fun e w' => e = .returned (.bool true) ∧ Below w.heap.size w w' := by
  refine calls_of Try.func42 rfl (m := 48) rfl [(0, .slice p N cap)] (Fr_enter [.slice p N cap] 48 (Nat.le_of_ble_eq_true rfl)) ?_
  have hH1 : HP Tr w w [] := HP.refl w
  refine WC.seq fun K2 hK2 => ?_
  refine WC.region ?_
  refine WL.pure (v := .bool false) 2 rfl (Nat.le_of_ble_eq_true rfl) rfl rfl (by kernel_rfl) ?_
  refine WL.nil ?_
  refine WQ.then ?_
  refine hK2 _ _ _ ?_
  refine WC.seq fun K3 hK3 => ?_
  refine WC.seq fun K4 hK4 => ?_
  refine WC.region ?_
  refine WL.pure (v := .slice p N cap) 4 rfl (Nat.le_of_ble_eq_true rfl) rfl rfl (by kernel_rfl) ?_
  refine WL.pure (v := vI (N : Int)) 5 rfl (Nat.le_of_ble_eq_true rfl) rfl rfl (by kernel_rfl) ?_
  refine WL.pure (v := .bool false) 6 rfl (Nat.le_of_ble_eq_true rfl) rfl rfl (x_lss rfl rfl rfl (dF (by omega))) ?_
  refine WL.pure (v := .bool false) 7 rfl (Nat.le_of_ble_eq_true rfl) rfl rfl (by kernel_rfl) ?_
  refine WL.pure (v := .slice p N cap) 8 rfl (Nat.le_of_ble_eq_true rfl) rfl rfl (by kernel_rfl) ?_
  refine WL.pure (v := vI (N : Int)) 9 rfl (Nat.le_of_ble_eq_true rfl) rfl rfl (by kernel_rfl) ?_
  refine WL.pure (v := .bool false) 10 rfl (Nat.le_of_ble_eq_true rfl) rfl rfl (x_gtr rfl rfl rfl (dF (by omega))) ?_
  refine WL.pure (v := .bool false) 11 rfl (Nat.le_of_ble_eq_true rfl) rfl rfl (by kernel_rfl) ?_
  refine WL.nil ?_
  refine WQ.then ?_
  refine hK4 _ _ _ ?_
  refine WC.sub (l' := [(0, .slice p N cap), (2, .bool false), (11, .bool false)]) ⟨rfl, rfl, rfl, trivial⟩ ?_
  refine WC.no rfl ?_
  refine WC.skip ?_
  refine WQ.then ?_
  refine hK3 _ _ _ ?_
  refine WC.seq fun K5 hK5 => ?_
  refine WC.seq fun K6 hK6 => ?_
  refine WC.region ?_
  refine WL.pure (v := vI 0) 3 rfl (Nat.le_of_ble_eq_true rfl) rfl rfl (by kernel_rfl) ?_
  refine WL.nil ?_
  refine WQ.then ?_
  refine hK6 _ _ _ ?_
  refine WC.block ?_
  refine WC.loop (fun kk0 ll0 ww0 => ∃ (i : Nat), ll0 = [(0, .slice p N cap), (3, vI (i : Int))] ∧ kk0 = N - i ∧ (i ≤ N) ∧ HP Tr w ww0 []) (N) [(0, .slice p N cap), (3, vI 0)] ⟨rfl, rfl, trivial⟩ ⟨0, rfl, rfl, Nat.zero_le _, hH1⟩ ?_
  rintro kk l w8 ⟨i, rfl, hkk, hi, hH9⟩ K7 hK7
  refine WC.seq fun K10 hK10 => ?_
  refine WC.seq fun K11 hK11 => ?_
  refine WC.region ?_
  refine WL.pure (v := vI (i : Int)) 12 rfl (Nat.le_of_ble_eq_true rfl) rfl rfl (by kernel_rfl) ?_
  refine WL.pure (v := .slice p N cap) 13 rfl (Nat.le_of_ble_eq_true rfl) rfl rfl (by kernel_rfl) ?_
  refine WL.pure (v := vI (N : Int)) 14 rfl (Nat.le_of_ble_eq_true rfl) rfl rfl (by kernel_rfl) ?_
  by_cases hlt : (i : Int) < (N : Int)
  ·
    refine WL.pure (v := .bool true) 15 rfl (Nat.le_of_ble_eq_true rfl) rfl rfl (x_lss rfl rfl rfl (dT (hlt))) ?_
    refine WL.nil ?_
    refine WQ.then ?_
    refine hK11 _ _ _ ?_
    refine WC.yes rfl ?_
    refine WC.skip ?_
    refine WQ.then ?_
    refine hK10 _ _ _ ?_
    refine WC.seq fun K12 hK12 => ?_
    refine WC.block ?_
    refine WC.seq fun K13 hK13 => ?_
    obtain ⟨bb, oo, rfl, hrow⟩ := hS (by omega)
    obtain ⟨q1, q2⟩ := okS1_iff.1 (hok.2.2 i (by omega))
    refine WC.region ?_
    refine WL.pure (v := .slice (some ⟨bb, oo, none⟩) N cap) 18 rfl (Nat.le_of_ble_eq_true rfl) rfl rfl (by kernel_rfl) ?_
    refine WL.pure (v := vI (i : Int)) 19 rfl (Nat.le_of_ble_eq_true rfl) rfl rfl (by kernel_rfl) ?_
    refine WL.pure (v := vP bb (oo + i * 2)) 20 rfl (Nat.le_of_ble_eq_true rfl) rfl rfl (x_idx (i) (oo + i * 2) rfl rfl rfl Try.underlying22 sz67 (by omega) (by omega) (by omega)) ?_
    refine WL.pure (v := vP bb (oo + i * 2)) 21 rfl (Nat.le_of_ble_eq_true rfl) rfl rfl (by kernel_rfl) ?_
    refine WL.pure (v := vI (o i)) 22 rfl (Nat.le_of_ble_eq_true rfl) rfl rfl (x_load rfl rfl Try.underlying3 rfl ((HP.oldRange hH9 trivial (hrow i (by omega))) 0 _ rfl)) ?_
    refine WL.pure (v := .bool false) 23 rfl (Nat.le_of_ble_eq_true rfl) rfl rfl (x_lss rfl rfl rfl (dF (by omega))) ?_
    refine WL.pure (v := .bool false) 24 rfl (Nat.le_of_ble_eq_true rfl) rfl rfl (by kernel_rfl) ?_
    refine WL.pure (v := .slice (some ⟨bb, oo, none⟩) N cap) 25 rfl (Nat.le_of_ble_eq_true rfl) rfl rfl (by kernel_rfl) ?_
    refine WL.pure (v := vI (i : Int)) 26 rfl (Nat.le_of_ble_eq_true rfl) rfl rfl (by kernel_rfl) ?_
    refine WL.pure (v := vP bb (oo + i * 2)) 27 rfl (Nat.le_of_ble_eq_true rfl) rfl rfl (x_idx (i) (oo + i * 2) rfl rfl rfl Try.underlying22 sz67 (by omega) (by omega) (by omega)) ?_
    refine WL.pure (v := vP bb (oo + i * 2)) 28 rfl (Nat.le_of_ble_eq_true rfl) rfl rfl (by kernel_rfl) ?_
    refine WL.pure (v := vI (o i)) 29 rfl (Nat.le_of_ble_eq_true rfl) rfl rfl (x_load rfl rfl Try.underlying3 rfl ((HP.oldRange hH9 trivial (hrow i (by omega))) 0 _ rfl)) ?_
    refine WL.pure (v := .bool false) 30 rfl (Nat.le_of_ble_eq_true rfl) rfl rfl (x_gtr rfl rfl rfl (dF (by omega))) ?_
    refine WL.pure (v := .bool false) 31 rfl (Nat.le_of_ble_eq_true rfl) rfl rfl (by kernel_rfl) ?_
    refine WL.pure (v := .bool false) 32 rfl (Nat.le_of_ble_eq_true rfl) rfl rfl (by kernel_rfl) ?_
    refine WL.pure (v := .slice (some ⟨bb, oo, none⟩) N cap) 33 rfl (Nat.le_of_ble_eq_true rfl) rfl rfl (by kernel_rfl) ?_
    refine WL.pure (v := vI (i : Int)) 34 rfl (Nat.le_of_ble_eq_true rfl) rfl rfl (by kernel_rfl) ?_
    refine WL.pure (v := vP bb (oo + i * 2)) 35 rfl (Nat.le_of_ble_eq_true rfl) rfl rfl (x_idx (i) (oo + i * 2) rfl rfl rfl Try.underlying22 sz67 (by omega) (by omega) (by omega)) ?_
    refine WL.pure (v := vP bb (oo + i * 2 + 1)) 36 rfl (Nat.le_of_ble_eq_true rfl) rfl rfl (by kernel_rfl) ?_
    refine WL.pure (v := vI (sp i)) 37 rfl (Nat.le_of_ble_eq_true rfl) rfl rfl (x_load rfl rfl Try.underlying3 rfl ((HP.oldRange hH9 trivial (hrow i (by omega))) 1 _ rfl)) ?_
    refine WL.pure (v := .bool false) 38 rfl (Nat.le_of_ble_eq_true rfl) rfl rfl (x_lss rfl rfl rfl (dF (by omega))) ?_
    refine WL.pure (v := .bool false) 39 rfl (Nat.le_of_ble_eq_true rfl) rfl rfl (by kernel_rfl) ?_
    refine WL.pure (v := .bool false) 40 rfl (Nat.le_of_ble_eq_true rfl) rfl rfl (by kernel_rfl) ?_
    refine WL.pure (v := .slice (some ⟨bb, oo, none⟩) N cap) 41 rfl (Nat.le_of_ble_eq_true rfl) rfl rfl (by kernel_rfl) ?_
    refine WL.pure (v := vI (i : Int)) 42 rfl (Nat.le_of_ble_eq_true rfl) rfl rfl (by kernel_rfl) ?_
    refine WL.pure (v := vP bb (oo + i * 2)) 43 rfl (Nat.le_of_ble_eq_true rfl) rfl rfl (x_idx (i) (oo + i * 2) rfl rfl rfl Try.underlying22 sz67 (by omega) (by omega) (by omega)) ?_
    refine WL.pure (v := vP bb (oo + i * 2 + 1)) 44 rfl (Nat.le_of_ble_eq_true rfl) rfl rfl (by kernel_rfl) ?_
    refine WL.pure (v := vI (sp i)) 45 rfl (Nat.le_of_ble_eq_true rfl) rfl rfl (x_load rfl rfl Try.underlying3 rfl ((HP.oldRange hH9 trivial (hrow i (by omega))) 1 _ rfl)) ?_
    refine WL.pure (v := .bool false) 46 rfl (Nat.le_of_ble_eq_true rfl) rfl rfl (x_gtr rfl rfl rfl (dF (by omega))) ?_
    refine WL.pure (v := .bool false) 47 rfl (Nat.le_of_ble_eq_true rfl) rfl rfl (by kernel_rfl) ?_
    refine WL.nil ?_
    refine WQ.then ?_
    refine hK13 _ _ _ ?_
    refine WC.sub (l' := [(0, .slice (some ⟨bb, oo, none⟩) N cap), (3, vI (i : Int)), (15, .bool true), (47, .bool false)]) ⟨rfl, rfl, rfl, rfl, trivial⟩ ?_
    refine WC.no rfl ?_
    refine WC.skip ?_
    refine WQ.inNormal ?_
    refine WQ.then ?_
    refine hK12 _ _ _ ?_
    refine WC.region ?_
    refine WL.pure (v := vI (i : Int)) 16 rfl (Nat.le_of_ble_eq_true rfl) rfl rfl (by kernel_rfl) ?_
    refine WL.pure (v := vI ((i + 1 : Nat) : Int)) 17 rfl (Nat.le_of_ble_eq_true rfl) rfl rfl (x_add (Z := ((i + 1 : Nat) : Int)) rfl rfl rfl (by omega) (by omega) (by omega)) ?_
    refine WL.pure (v := vI ((i + 1 : Nat) : Int)) 3 rfl (Nat.le_of_ble_eq_true rfl) rfl rfl (by kernel_rfl) ?_
    refine WL.nil ?_
    refine WQ.sub (l' := [(0, .slice (some ⟨bb, oo, none⟩) N cap), (3, vI ((i + 1 : Nat) : Int))]) ⟨rfl, rfl, trivial⟩ ?_
    refine WQ.then (hK7 _ _ _ (by omega) ⟨i + 1, rfl, rfl, by omega, hH9⟩)
  ·
    refine WL.pure (v := .bool false) 15 rfl (Nat.le_of_ble_eq_true rfl) rfl rfl (x_lss rfl rfl rfl (dF (hlt))) ?_
    refine WL.nil ?_
    refine WQ.then ?_
    refine hK11 _ _ _ ?_
    refine WC.no rfl ?_
    refine WC.exit ?_
    refine WQ.thenExit ?_
    refine WQ.thenExit ?_
    refine WQ.inExit ?_
    refine WQ.then ?_
    refine hK5 _ _ _ ?_
    refine WC.seq fun K14 hK14 => ?_
    refine WC.region ?_
    refine WL.pure (v := .bool true) 2 rfl (Nat.le_of_ble_eq_true rfl) rfl rfl (by kernel_rfl) ?_
    refine WL.nil ?_
    refine WQ.then ?_
    refine hK14 _ _ _ ?_
    refine WC.ret ?_
    refine WQ.ret1 2 rfl rfl ?_
    exact ⟨rfl, HP.below hH9⟩
set_option maxRecDepth 20000 in
set_option maxHeartbeats 4000000 in
theorem asks_any (p : Option Addr) (N cap : Nat) (o sp : Nat → Int) (m t a z : Int) (w : World) (hS : InS w p N o sp) (hok : 1 ≤ N ∧ N ≤ 8 ∧ ∀ i, i < N → okS1 (o i) (sp i) = true) :
    Calls Try.prog 28 #[.slice p N cap, vI m, vI t, vI a, vI z] w fun e w' => e = .returned (.int .i64 (if okM m && (decide (a ≤ t) && decide (t ≤ z)) then 0 else 1)) ∧ Below w.heap.size w w' := by
  refine calls_of Try.func28 rfl (m := 32) rfl [(0, .slice p N cap), (1, vI m), (2, vI t), (3, vI a), (4, vI z)] (Fr_enter [.slice p N cap, vI m, vI t, vI a, vI z] 32 (Nat.le_of_ble_eq_true rfl)) ?_
  have hH1 : HP Tr w w [] := HP.refl w
  refine WC.seq fun K2 hK2 => ?_
  refine WC.region ?_
  refine WL.pure (v := vI 0) 10 rfl (Nat.le_of_ble_eq_true rfl) rfl rfl (by kernel_rfl) ?_
  refine WL.nil ?_
  refine WQ.then ?_
  refine hK2 _ _ _ ?_
  refine WC.seq fun K3 hK3 => ?_
  refine WC.seq fun K4 hK4 => ?_
  refine WC.region ?_
  refine WL.pure (v := .slice p N cap) 11 rfl (Nat.le_of_ble_eq_true rfl) rfl rfl (by kernel_rfl) ?_
  refine WL.call (f := 42) (args := #[.slice p N cap]) 12 rfl (Nat.le_of_ble_eq_true rfl) rfl rfl (by kernel_rfl) ?_
  refine (rvalid_any p N cap o sp _ (hS.below (HP.below hH1)) hok).mono ?_
  rintro e w5 ⟨rfl, hb6⟩
  refine ⟨_, rfl, ?_⟩
  have hH7 : HP Tr w _ [] := HP.call hH1 hb6
  refine WL.pure (v := .bool false) 13 rfl (Nat.le_of_ble_eq_true rfl) rfl rfl (by kernel_rfl) ?_
  refine WL.pure (v := .bool false) 14 rfl (Nat.le_of_ble_eq_true rfl) rfl rfl (by kernel_rfl) ?_
  refine WL.pure (v := vI m) 15 rfl (Nat.le_of_ble_eq_true rfl) rfl rfl (by kernel_rfl) ?_
  by_cases h16 : m < 0
  ·
    refine WL.pure (v := .bool true) 16 rfl (Nat.le_of_ble_eq_true rfl) rfl rfl (x_lss rfl rfl rfl (dT (h16))) ?_
    refine WL.pure (v := .bool true) 17 rfl (Nat.le_of_ble_eq_true rfl) rfl rfl (by kernel_rfl) ?_
    refine WL.pure (v := .bool true) 18 rfl (Nat.le_of_ble_eq_true rfl) rfl rfl (by kernel_rfl) ?_
    refine WL.pass 19 rfl (Nat.le_of_ble_eq_true rfl) rfl ?_
    refine WL.pass 20 rfl (Nat.le_of_ble_eq_true rfl) rfl ?_
    refine WL.pure (v := .bool true) 21 rfl (Nat.le_of_ble_eq_true rfl) rfl rfl (by kernel_rfl) ?_
    refine WL.pure (v := .bool true) 22 rfl (Nat.le_of_ble_eq_true rfl) rfl rfl (by kernel_rfl) ?_
    refine WL.pass 23 rfl (Nat.le_of_ble_eq_true rfl) rfl ?_
    refine WL.pass 24 rfl (Nat.le_of_ble_eq_true rfl) rfl ?_
    refine WL.pass 25 rfl (Nat.le_of_ble_eq_true rfl) rfl ?_
    refine WL.pure (v := .bool true) 26 rfl (Nat.le_of_ble_eq_true rfl) rfl rfl (by kernel_rfl) ?_
    refine WL.pure (v := .bool true) 27 rfl (Nat.le_of_ble_eq_true rfl) rfl rfl (by kernel_rfl) ?_
    refine WL.pass 28 rfl (Nat.le_of_ble_eq_true rfl) rfl ?_
    refine WL.pass 29 rfl (Nat.le_of_ble_eq_true rfl) rfl ?_
    refine WL.pass 30 rfl (Nat.le_of_ble_eq_true rfl) rfl ?_
    refine WL.pure (v := .bool true) 31 rfl (Nat.le_of_ble_eq_true rfl) rfl rfl (by kernel_rfl) ?_
    refine WL.nil ?_
    refine WQ.then ?_
    refine hK4 _ _ _ ?_
    refine WC.sub (l' := [(0, .slice p N cap), (1, vI m), (2, vI t), (3, vI a), (4, vI z), (10, vI 0), (31, .bool true)]) ⟨rfl, rfl, rfl, rfl, rfl, rfl, rfl, trivial⟩ ?_
    refine WC.yes rfl ?_
    refine WC.seq fun K8 hK8 => ?_
    refine WC.region ?_
    refine WL.pure (v := vI 1) 10 rfl (Nat.le_of_ble_eq_true rfl) rfl rfl (by kernel_rfl) ?_
    refine WL.nil ?_
    refine WQ.then ?_
    refine hK8 _ _ _ ?_
    refine WC.ret ?_
    refine WQ.thenRet ?_
    refine WQ.ret1 10 rfl rfl ?_
    exact ⟨by rw [show (if okM m && (decide (a ≤ t) && decide (t ≤ z)) then 0 else 1 : Int) = 1 from if_neg (by unfold okM; simp; omega)], HP.below hH7⟩
  ·
    refine WL.pure (v := .bool false) 16 rfl (Nat.le_of_ble_eq_true rfl) rfl rfl (x_lss rfl rfl rfl (dF (h16))) ?_
    refine WL.pure (v := .bool false) 17 rfl (Nat.le_of_ble_eq_true rfl) rfl rfl (by kernel_rfl) ?_
    refine WL.pure (v := .bool false) 18 rfl (Nat.le_of_ble_eq_true rfl) rfl rfl (by kernel_rfl) ?_
    refine WL.pure (v := vI m) 19 rfl (Nat.le_of_ble_eq_true rfl) rfl rfl (by kernel_rfl) ?_
    by_cases h20 : (3 : Int) < m
    ·
      refine WL.pure (v := .bool true) 20 rfl (Nat.le_of_ble_eq_true rfl) rfl rfl (x_gtr rfl rfl rfl (dT (h20))) ?_
      refine WL.pure (v := .bool true) 21 rfl (Nat.le_of_ble_eq_true rfl) rfl rfl (by kernel_rfl) ?_
      refine WL.pure (v := .bool true) 22 rfl (Nat.le_of_ble_eq_true rfl) rfl rfl (by kernel_rfl) ?_
      refine WL.pass 23 rfl (Nat.le_of_ble_eq_true rfl) rfl ?_
      refine WL.pass 24 rfl (Nat.le_of_ble_eq_true rfl) rfl ?_
      refine WL.pass 25 rfl (Nat.le_of_ble_eq_true rfl) rfl ?_
      refine WL.pure (v := .bool true) 26 rfl (Nat.le_of_ble_eq_true rfl) rfl rfl (by kernel_rfl) ?_
      refine WL.pure (v := .bool true) 27 rfl (Nat.le_of_ble_eq_true rfl) rfl rfl (by kernel_rfl) ?_
      refine WL.pass 28 rfl (Nat.le_of_ble_eq_true rfl) rfl ?_
      refine WL.pass 29 rfl (Nat.le_of_ble_eq_true rfl) rfl ?_
      refine WL.pass 30 rfl (Nat.le_of_ble_eq_true rfl) rfl ?_
      refine WL.pure (v := .bool true) 31 rfl (Nat.le_of_ble_eq_true rfl) rfl rfl (by kernel_rfl) ?_
      refine WL.nil ?_
      refine WQ.then ?_
      refine hK4 _ _ _ ?_
      refine WC.sub (l' := [(0, .slice p N cap), (1, vI m), (2, vI t), (3, vI a), (4, vI z), (10, vI 0), (31, .bool true)]) ⟨rfl, rfl, rfl, rfl, rfl, rfl, rfl, trivial⟩ ?_
      refine WC.yes rfl ?_
      refine WC.seq fun K9 hK9 => ?_
      refine WC.region ?_
      refine WL.pure (v := vI 1) 10 rfl (Nat.le_of_ble_eq_true rfl) rfl rfl (by kernel_rfl) ?_
      refine WL.nil ?_
      refine WQ.then ?_
      refine hK9 _ _ _ ?_
      refine WC.ret ?_
      refine WQ.thenRet ?_
      refine WQ.ret1 10 rfl rfl ?_
      exact ⟨by rw [show (if okM m && (decide (a ≤ t) && decide (t ≤ z)) then 0 else 1 : Int) = 1 from if_neg (by unfold okM; simp; omega)], HP.below hH7⟩
    ·
      refine WL.pure (v := .bool false) 20 rfl (Nat.le_of_ble_eq_true rfl) rfl rfl (x_gtr rfl rfl rfl (dF (h20))) ?_
      refine WL.pure (v := .bool false) 21 rfl (Nat.le_of_ble_eq_true rfl) rfl rfl (by kernel_rfl) ?_
      refine WL.pure (v := .bool false) 22 rfl (Nat.le_of_ble_eq_true rfl) rfl rfl (by kernel_rfl) ?_
      refine WL.pure (v := vI t) 23 rfl (Nat.le_of_ble_eq_true rfl) rfl rfl (by kernel_rfl) ?_
      refine WL.pure (v := vI a) 24 rfl (Nat.le_of_ble_eq_true rfl) rfl rfl (by kernel_rfl) ?_
      by_cases h25 : t < a
      ·
        refine WL.pure (v := .bool true) 25 rfl (Nat.le_of_ble_eq_true rfl) rfl rfl (x_lss rfl rfl rfl (dT (h25))) ?_
        refine WL.pure (v := .bool true) 26 rfl (Nat.le_of_ble_eq_true rfl) rfl rfl (by kernel_rfl) ?_
        refine WL.pure (v := .bool true) 27 rfl (Nat.le_of_ble_eq_true rfl) rfl rfl (by kernel_rfl) ?_
        refine WL.pass 28 rfl (Nat.le_of_ble_eq_true rfl) rfl ?_
        refine WL.pass 29 rfl (Nat.le_of_ble_eq_true rfl) rfl ?_
        refine WL.pass 30 rfl (Nat.le_of_ble_eq_true rfl) rfl ?_
        refine WL.pure (v := .bool true) 31 rfl (Nat.le_of_ble_eq_true rfl) rfl rfl (by kernel_rfl) ?_
        refine WL.nil ?_
        refine WQ.then ?_
        refine hK4 _ _ _ ?_
        refine WC.sub (l' := [(0, .slice p N cap), (1, vI m), (2, vI t), (3, vI a), (4, vI z), (10, vI 0), (31, .bool true)]) ⟨rfl, rfl, rfl, rfl, rfl, rfl, rfl, trivial⟩ ?_
        refine WC.yes rfl ?_
        refine WC.seq fun K10 hK10 => ?_
        refine WC.region ?_
        refine WL.pure (v := vI 1) 10 rfl (Nat.le_of_ble_eq_true rfl) rfl rfl (by kernel_rfl) ?_
        refine WL.nil ?_
        refine WQ.then ?_
        refine hK10 _ _ _ ?_
        refine WC.ret ?_
        refine WQ.thenRet ?_
        refine WQ.ret1 10 rfl rfl ?_
        exact ⟨by rw [show (if okM m && (decide (a ≤ t) && decide (t ≤ z)) then 0 else 1 : Int) = 1 from if_neg (by unfold okM; simp; omega)], HP.below hH7⟩
      ·
        refine WL.pure (v := .bool false) 25 rfl (Nat.le_of_ble_eq_true rfl) rfl rfl (x_lss rfl rfl rfl (dF (h25))) ?_
        refine WL.pure (v := .bool false) 26 rfl (Nat.le_of_ble_eq_true rfl) rfl rfl (by kernel_rfl) ?_
        refine WL.pure (v := .bool false) 27 rfl (Nat.le_of_ble_eq_true rfl) rfl rfl (by kernel_rfl) ?_
        refine WL.pure (v := vI t) 28 rfl (Nat.le_of_ble_eq_true rfl) rfl rfl (by kernel_rfl) ?_
        refine WL.pure (v := vI z) 29 rfl (Nat.le_of_ble_eq_true rfl) rfl rfl (by kernel_rfl) ?_
        by_cases h30 : z < t
        ·
          refine WL.pure (v := .bool true) 30 rfl (Nat.le_of_ble_eq_true rfl) rfl rfl (x_gtr rfl rfl rfl (dT (h30))) ?_
          refine WL.pure (v := .bool true) 31 rfl (Nat.le_of_ble_eq_true rfl) rfl rfl (by kernel_rfl) ?_
          refine WL.nil ?_
          refine WQ.then ?_
          refine hK4 _ _ _ ?_
          refine WC.sub (l' := [(0, .slice p N cap), (1, vI m), (2, vI t), (3, vI a), (4, vI z), (10, vI 0), (31, .bool true)]) ⟨rfl, rfl, rfl, rfl, rfl, rfl, rfl, trivial⟩ ?_
          refine WC.yes rfl ?_
          refine WC.seq fun K11 hK11 => ?_
          refine WC.region ?_
          refine WL.pure (v := vI 1) 10 rfl (Nat.le_of_ble_eq_true rfl) rfl rfl (by kernel_rfl) ?_
          refine WL.nil ?_
          refine WQ.then ?_
          refine hK11 _ _ _ ?_
          refine WC.ret ?_
          refine WQ.thenRet ?_
          refine WQ.ret1 10 rfl rfl ?_
          exact ⟨by rw [show (if okM m && (decide (a ≤ t) && decide (t ≤ z)) then 0 else 1 : Int) = 1 from if_neg (by unfold okM; simp; omega)], HP.below hH7⟩
        ·
          refine WL.pure (v := .bool false) 30 rfl (Nat.le_of_ble_eq_true rfl) rfl rfl (x_gtr rfl rfl rfl (dF (h30))) ?_
          refine WL.pure (v := .bool false) 31 rfl (Nat.le_of_ble_eq_true rfl) rfl rfl (by kernel_rfl) ?_
          refine WL.nil ?_
          refine WQ.then ?_
          refine hK4 _ _ _ ?_
          refine WC.sub (l' := [(0, .slice p N cap), (1, vI m), (2, vI t), (3, vI a), (4, vI z), (10, vI 0), (31, .bool false)]) ⟨rfl, rfl, rfl, rfl, rfl, rfl, rfl, trivial⟩ ?_
          refine WC.no rfl ?_
          refine WC.skip ?_
          refine WQ.then ?_
          refine hK3 _ _ _ ?_
          refine WC.seq fun K12 hK12 => ?_
          refine WC.region ?_
          refine WL.pure (v := vI 0) 10 rfl (Nat.le_of_ble_eq_true rfl) rfl rfl (by kernel_rfl) ?_
          refine WL.nil ?_
          refine WQ.then ?_
          refine hK12 _ _ _ ?_
          refine WC.ret ?_
          refine WQ.ret1 10 rfl rfl ?_
          exact ⟨by rw [show (if okM m && (decide (a ≤ t) && decide (t ≤ z)) then 0 else 1 : Int) = 0 from if_pos (by unfold okM; simp; omega)], HP.below hH7⟩
set_option maxRecDepth 20000 in
set_option maxHeartbeats 4000000 in
theorem request_any (p : Option Addr) (N cap : Nat) (o sp : Nat → Int) (m t n : Int) (w : World) (hS : InS w p N o sp) (hok : 1 ≤ N ∧ N ≤ 8 ∧ ∀ i, i < N → okS1 (o i) (sp i) = true) :
    Calls Try.prog 12 #[.slice p N cap, .agg #[vI m, vI t, vI n]] w fun e w' => e = .returned (.int .i64 (if okR m t n then 0 else 1)) ∧ Below w.heap.size w w' := by
  refine calls_of Try.func12 rfl (m := 22) rfl [(0, .slice p N cap), (1, .agg #[vI m, vI t, vI n])] (Fr_enter [.slice p N cap, .agg #[vI m, vI t, vI n]] 22 (Nat.le_of_ble_eq_true rfl)) ?_
  have hH1 : HP Tr w w [] := HP.refl w
  refine WC.seq fun K2 hK2 => ?_
  refine WC.region ?_
  refine WL.alloc (c := #[vI m, vI t, vI n]) (T := 30) hH1 3 rfl (by decide) rfl rfl (fun b3 => vP b3 0) (by kernel_rfl) (fun b3 w3 hw3 => ?_)
  have hH4 : HP Tr w w3 [.cel b3 #[vI m, vI t, vI n] 30] := hw3.2
  have nb3 := hw3.1
  clear hw3
  refine WL.pure (v := vI 0) 4 rfl (Nat.le_of_ble_eq_true rfl) rfl rfl (by kernel_rfl) ?_
  refine WL.nil ?_
  refine WQ.then ?_
  refine hK2 _ _ _ ?_
  refine WC.seq fun K5 hK5 => ?_
  refine WC.seq fun K6 hK6 => ?_
  refine WC.region ?_
  refine WL.pure (v := .slice p N cap) 5 rfl (Nat.le_of_ble_eq_true rfl) rfl rfl (by kernel_rfl) ?_
  refine WL.pure (v := vP b3 0) 6 rfl (Nat.le_of_ble_eq_true rfl) rfl rfl (by kernel_rfl) ?_
  refine WL.pure (v := vI m) 7 rfl (Nat.le_of_ble_eq_true rfl) rfl rfl (x_load rfl rfl Try.underlying3 rfl (HP.cell hH4 0 rfl rfl)) ?_
  refine WL.pure (v := vP b3 1) 8 rfl (Nat.le_of_ble_eq_true rfl) rfl rfl (by kernel_rfl) ?_
  refine WL.pure (v := vI t) 9 rfl (Nat.le_of_ble_eq_true rfl) rfl rfl (x_load rfl rfl Try.underlying3 rfl (HP.cell hH4 0 rfl rfl)) ?_
  have qa := fun w hS => asks_any p N cap o sp m t 0 10000 w hS hok
  rcases Bool.eq_false_or_eq_true (okM m && (decide (0 ≤ t) && decide (t ≤ 10000))) with hmt | hmt
  ·
    rw [hmt] at qa
    refine WL.call (f := 28) (args := #[.slice p N cap, vI m, vI t, vI 0, vI 10000]) 10 rfl (Nat.le_of_ble_eq_true rfl) rfl rfl (by kernel_rfl) ?_
    refine (qa _ (hS.below (HP.below hH4))).mono ?_
    rintro e w7 ⟨rfl, hb8⟩
    refine ⟨_, rfl, ?_⟩
    have hH9 : HP Tr w _ [.cel b3 #[vI m, vI t, vI n] 30] := HP.call hH4 hb8
    refine WL.pure (v := .bool false) 11 rfl (Nat.le_of_ble_eq_true rfl) rfl rfl (x_neq rfl rfl rfl (by decide)) ?_
    refine WL.pure (v := .bool false) 12 rfl (Nat.le_of_ble_eq_true rfl) rfl rfl (by kernel_rfl) ?_
    refine WL.pure (v := vP b3 2) 13 rfl (Nat.le_of_ble_eq_true rfl) rfl rfl (by kernel_rfl) ?_
    refine WL.pure (v := vI n) 14 rfl (Nat.le_of_ble_eq_true rfl) rfl rfl (x_load rfl rfl Try.underlying3 rfl (HP.cell hH9 0 rfl rfl)) ?_
    by_cases h15 : n < 1
    ·
      refine WL.pure (v := .bool true) 15 rfl (Nat.le_of_ble_eq_true rfl) rfl rfl (x_lss rfl rfl rfl (dT (h15))) ?_
      refine WL.pure (v := .bool true) 16 rfl (Nat.le_of_ble_eq_true rfl) rfl rfl (by kernel_rfl) ?_
      refine WL.pure (v := .bool true) 17 rfl (Nat.le_of_ble_eq_true rfl) rfl rfl (by kernel_rfl) ?_
      refine WL.pass 18 rfl (Nat.le_of_ble_eq_true rfl) rfl ?_
      refine WL.pass 19 rfl (Nat.le_of_ble_eq_true rfl) rfl ?_
      refine WL.pass 20 rfl (Nat.le_of_ble_eq_true rfl) rfl ?_
      refine WL.pure (v := .bool true) 21 rfl (Nat.le_of_ble_eq_true rfl) rfl rfl (by kernel_rfl) ?_
      refine WL.nil ?_
      refine WQ.then ?_
      refine hK6 _ _ _ ?_
      refine WC.sub (l' := [(0, .slice p N cap), (1, .agg #[vI m, vI t, vI n]), (3, vP b3 0), (4, vI 0), (21, .bool true)]) ⟨rfl, rfl, rfl, rfl, rfl, trivial⟩ ?_
      refine WC.yes rfl ?_
      refine WC.seq fun K10 hK10 => ?_
      refine WC.region ?_
      refine WL.pure (v := vI 1) 4 rfl (Nat.le_of_ble_eq_true rfl) rfl rfl (by kernel_rfl) ?_
      refine WL.nil ?_
      refine WQ.then ?_
      refine hK10 _ _ _ ?_
      refine WC.ret ?_
      refine WQ.thenRet ?_
      refine WQ.ret1 4 rfl rfl ?_
      exact ⟨by rw [show (if okR m t n then 0 else 1 : Int) = 1 from if_neg (by unfold okR okT; rw [← Bool.and_assoc, hmt, Bool.true_and]; unfold okN; simp; omega)], HP.below hH9⟩
    ·
      refine WL.pure (v := .bool false) 15 rfl (Nat.le_of_ble_eq_true rfl) rfl rfl (x_lss rfl rfl rfl (dF (h15))) ?_
      refine WL.pure (v := .bool false) 16 rfl (Nat.le_of_ble_eq_true rfl) rfl rfl (by kernel_rfl) ?_
      refine WL.pure (v := .bool false) 17 rfl (Nat.le_of_ble_eq_true rfl) rfl rfl (by kernel_rfl) ?_
      refine WL.pure (v := vP b3 2) 18 rfl (Nat.le_of_ble_eq_true rfl) rfl rfl (by kernel_rfl) ?_
      refine WL.pure (v := vI n) 19 rfl (Nat.le_of_ble_eq_true rfl) rfl rfl (x_load rfl rfl Try.underlying3 rfl (HP.cell hH9 0 rfl rfl)) ?_
      by_cases h20 : (100 : Int) < n
      ·
        refine WL.pure (v := .bool true) 20 rfl (Nat.le_of_ble_eq_true rfl) rfl rfl (x_gtr rfl rfl rfl (dT (h20))) ?_
        refine WL.pure (v := .bool true) 21 rfl (Nat.le_of_ble_eq_true rfl) rfl rfl (by kernel_rfl) ?_
        refine WL.nil ?_
        refine WQ.then ?_
        refine hK6 _ _ _ ?_
        refine WC.sub (l' := [(0, .slice p N cap), (1, .agg #[vI m, vI t, vI n]), (3, vP b3 0), (4, vI 0), (21, .bool true)]) ⟨rfl, rfl, rfl, rfl, rfl, trivial⟩ ?_
        refine WC.yes rfl ?_
        refine WC.seq fun K11 hK11 => ?_
        refine WC.region ?_
        refine WL.pure (v := vI 1) 4 rfl (Nat.le_of_ble_eq_true rfl) rfl rfl (by kernel_rfl) ?_
        refine WL.nil ?_
        refine WQ.then ?_
        refine hK11 _ _ _ ?_
        refine WC.ret ?_
        refine WQ.thenRet ?_
        refine WQ.ret1 4 rfl rfl ?_
        exact ⟨by rw [show (if okR m t n then 0 else 1 : Int) = 1 from if_neg (by unfold okR okT; rw [← Bool.and_assoc, hmt, Bool.true_and]; unfold okN; simp; omega)], HP.below hH9⟩
      ·
        refine WL.pure (v := .bool false) 20 rfl (Nat.le_of_ble_eq_true rfl) rfl rfl (x_gtr rfl rfl rfl (dF (h20))) ?_
        refine WL.pure (v := .bool false) 21 rfl (Nat.le_of_ble_eq_true rfl) rfl rfl (by kernel_rfl) ?_
        refine WL.nil ?_
        refine WQ.then ?_
        refine hK6 _ _ _ ?_
        refine WC.sub (l' := [(0, .slice p N cap), (1, .agg #[vI m, vI t, vI n]), (3, vP b3 0), (4, vI 0), (21, .bool false)]) ⟨rfl, rfl, rfl, rfl, rfl, trivial⟩ ?_
        refine WC.no rfl ?_
        refine WC.skip ?_
        refine WQ.then ?_
        refine hK5 _ _ _ ?_
        refine WC.seq fun K12 hK12 => ?_
        refine WC.region ?_
        refine WL.pure (v := vI 0) 4 rfl (Nat.le_of_ble_eq_true rfl) rfl rfl (by kernel_rfl) ?_
        refine WL.nil ?_
        refine WQ.then ?_
        refine hK12 _ _ _ ?_
        refine WC.ret ?_
        refine WQ.ret1 4 rfl rfl ?_
        exact ⟨by rw [show (if okR m t n then 0 else 1 : Int) = 0 from if_pos (by unfold okR okT; rw [← Bool.and_assoc, hmt, Bool.true_and]; unfold okN; simp; omega)], HP.below hH9⟩
  ·
    rw [hmt] at qa
    refine WL.call (f := 28) (args := #[.slice p N cap, vI m, vI t, vI 0, vI 10000]) 10 rfl (Nat.le_of_ble_eq_true rfl) rfl rfl (by kernel_rfl) ?_
    refine (qa _ (hS.below (HP.below hH4))).mono ?_
    rintro e w13 ⟨rfl, hb14⟩
    refine ⟨_, rfl, ?_⟩
    have hH15 : HP Tr w _ [.cel b3 #[vI m, vI t, vI n] 30] := HP.call hH4 hb14
    refine WL.pure (v := .bool true) 11 rfl (Nat.le_of_ble_eq_true rfl) rfl rfl (x_neq rfl rfl rfl (by decide)) ?_
    refine WL.pure (v := .bool true) 12 rfl (Nat.le_of_ble_eq_true rfl) rfl rfl (by kernel_rfl) ?_
    refine WL.pass 13 rfl (Nat.le_of_ble_eq_true rfl) rfl ?_
    refine WL.pass 14 rfl (Nat.le_of_ble_eq_true rfl) rfl ?_
    refine WL.pass 15 rfl (Nat.le_of_ble_eq_true rfl) rfl ?_
    refine WL.pure (v := .bool true) 16 rfl (Nat.le_of_ble_eq_true rfl) rfl rfl (by kernel_rfl) ?_
    refine WL.pure (v := .bool true) 17 rfl (Nat.le_of_ble_eq_true rfl) rfl rfl (by kernel_rfl) ?_
    refine WL.pass 18 rfl (Nat.le_of_ble_eq_true rfl) rfl ?_
    refine WL.pass 19 rfl (Nat.le_of_ble_eq_true rfl) rfl ?_
    refine WL.pass 20 rfl (Nat.le_of_ble_eq_true rfl) rfl ?_
    refine WL.pure (v := .bool true) 21 rfl (Nat.le_of_ble_eq_true rfl) rfl rfl (by kernel_rfl) ?_
    refine WL.nil ?_
    refine WQ.then ?_
    refine hK6 _ _ _ ?_
    refine WC.sub (l' := [(0, .slice p N cap), (1, .agg #[vI m, vI t, vI n]), (3, vP b3 0), (4, vI 0), (21, .bool true)]) ⟨rfl, rfl, rfl, rfl, rfl, trivial⟩ ?_
    refine WC.yes rfl ?_
    refine WC.seq fun K16 hK16 => ?_
    refine WC.region ?_
    refine WL.pure (v := vI 1) 4 rfl (Nat.le_of_ble_eq_true rfl) rfl rfl (by kernel_rfl) ?_
    refine WL.nil ?_
    refine WQ.then ?_
    refine hK16 _ _ _ ?_
    refine WC.ret ?_
    refine WQ.thenRet ?_
    refine WQ.ret1 4 rfl rfl ?_
    exact ⟨by rw [show (if okR m t n then 0 else 1 : Int) = 1 from if_neg (by unfold okR okT; rw [← Bool.and_assoc, hmt]; simp)], HP.below hH15⟩
set_option maxRecDepth 20000 in
set_option maxHeartbeats 4000000 in
theorem table_any (p : Option Addr) (N cap : Nat) (o sp : Nat → Int) (w : World) (hS : InS w p N o sp) (hok : 1 ≤ N ∧ N ≤ 8 ∧ ∀ i, i < N → okS1 (o i) (sp i) = true) :
    Calls Try.prog 13 #[.slice p N cap] w fun e w' => ∃ pv cv, e = .returned (.slice pv (owl o sp N).length cv) ∧ InI w' pv (owl o sp N) ∧ Below w.heap.size w w' := by
  refine calls_of Try.func13 rfl (m := 30) rfl [(0, .slice p N cap)] (Fr_enter [.slice p N cap] 30 (Nat.le_of_ble_eq_true rfl)) ?_
  have hH1 : HP Tr w w [] := HP.refl w
  refine WC.seq fun K2 hK2 => ?_
  refine WC.region ?_
  refine WL.pure (v := .slice none 0 0) 2 rfl (Nat.le_of_ble_eq_true rfl) rfl rfl (by kernel_rfl) ?_
  refine WL.nil ?_
  refine WQ.then ?_
  refine hK2 _ _ _ ?_
  refine WC.seq fun K3 hK3 => ?_
  refine WC.region ?_
  refine WL.pure (v := .slice none 0 0) 3 rfl (Nat.le_of_ble_eq_true rfl) rfl rfl (by kernel_rfl) ?_
  refine WL.nil ?_
  refine WQ.then ?_
  refine hK3 _ _ _ ?_
  refine WC.seq fun K4 hK4 => ?_
  refine WC.seq fun K5 hK5 => ?_
  refine WC.region ?_
  refine WL.pure (v := vI 0) 4 rfl (Nat.le_of_ble_eq_true rfl) rfl rfl (by kernel_rfl) ?_
  refine WL.nil ?_
  refine WQ.then ?_
  refine hK5 _ _ _ ?_
  refine WC.block ?_
  refine WC.loop (fun kk0 ll0 ww0 => ∃ (i : Nat) (xs : List Int) (pv : Option Addr) (cv : Nat), ll0 = [(0, .slice p N cap), (3, .slice pv xs.length cv), (4, vI (i : Int))] ∧ kk0 = N - i ∧ (i ≤ N) ∧ (xs = owl o sp i) ∧ HP Tr w ww0 [rowI' pv cv xs]) (N) [(0, .slice p N cap), (3, .slice none 0 0), (4, vI 0)] ⟨rfl, rfl, rfl, trivial⟩ ⟨0, [], none, 0, rfl, rfl, Nat.zero_le _, rfl, HP.eq (HP.ownNil hH1 3 1) rfl⟩ ?_
  rintro kk l w7 ⟨i, xs, pv, cv, rfl, hkk, hi, hxs, hH8⟩ K6 hK6
  refine WC.seq fun K9 hK9 => ?_
  refine WC.seq fun K10 hK10 => ?_
  refine WC.region ?_
  refine WL.pure (v := vI (i : Int)) 6 rfl (Nat.le_of_ble_eq_true rfl) rfl rfl (by kernel_rfl) ?_
  refine WL.pure (v := .slice p N cap) 7 rfl (Nat.le_of_ble_eq_true rfl) rfl rfl (by kernel_rfl) ?_
  refine WL.pure (v := vI (N : Int)) 8 rfl (Nat.le_of_ble_eq_true rfl) rfl rfl (by kernel_rfl) ?_
  by_cases hlt : (i : Int) < (N : Int)
  ·
    refine WL.pure (v := .bool true) 9 rfl (Nat.le_of_ble_eq_true rfl) rfl rfl (x_lss rfl rfl rfl (dT (hlt))) ?_
    refine WL.nil ?_
    refine WQ.then ?_
    refine hK10 _ _ _ ?_
    refine WC.yes rfl ?_
    refine WC.skip ?_
    refine WQ.then ?_
    refine hK9 _ _ _ ?_
    refine WC.seq fun K11 hK11 => ?_
    refine WC.block ?_
    refine WC.seq fun K12 hK12 => ?_
    obtain ⟨bb, oo, rfl, hrow⟩ := hS (by omega)
    obtain ⟨q1, q2⟩ := okS1_iff.1 (hok.2.2 i (by omega))
    obtain ⟨sn, hsn⟩ : ∃ sn : Nat, sp i = (sn : Int) := ⟨(sp i).toNat, by omega⟩
    have hyl : xs.length ≤ i * 50 := by rw [hxs]; exact (owl_len (o := o) (sp := sp) i (fun q hq => (okS1_iff.1 (hok.2.2 q (by omega))).2)).2
    refine WC.region ?_
    refine WL.pure (v := vI 0) 5 rfl (Nat.le_of_ble_eq_true rfl) rfl rfl (by kernel_rfl) ?_
    refine WL.nil ?_
    refine WQ.then ?_
    refine hK12 _ _ _ ?_
    refine WC.block ?_
    refine WC.loop (fun kk0 ll0 ww0 => ∃ (k : Nat) (zs : List Int) (pu : Option Addr) (cu : Nat), ll0 = [(0, .slice (some ⟨bb, oo, none⟩) N cap), (3, .slice pu zs.length cu), (4, vI (i : Int)), (5, vI (k : Int))] ∧ kk0 = sn - k ∧ (k ≤ sn) ∧ (zs = xs ++ List.replicate k (o i)) ∧ HP Tr w ww0 [rowI' pu cu zs]) (sn) [(0, .slice (some ⟨bb, oo, none⟩) N cap), (3, .slice pv xs.length cv), (4, vI (i : Int)), (5, vI 0)] ⟨rfl, rfl, rfl, rfl, trivial⟩ ⟨0, xs, pv, cv, rfl, rfl, Nat.zero_le _, by simp, hH8⟩ ?_
    rintro kk l w14 ⟨k, zs, pu, cu, rfl, hkk, hk, hzs, hH15⟩ K13 hK13
    have hzl : zs.length = xs.length + k := by rw [hzs]; simp
    refine WC.seq fun K16 hK16 => ?_
    refine WC.seq fun K17 hK17 => ?_
    refine WC.region ?_
    refine WL.pure (v := vI (k : Int)) 12 rfl (Nat.le_of_ble_eq_true rfl) rfl rfl (by kernel_rfl) ?_
    refine WL.pure (v := .slice (some ⟨bb, oo, none⟩) N cap) 13 rfl (Nat.le_of_ble_eq_true rfl) rfl rfl (by kernel_rfl) ?_
    refine WL.pure (v := vI (i : Int)) 14 rfl (Nat.le_of_ble_eq_true rfl) rfl rfl (by kernel_rfl) ?_
    refine WL.pure (v := vP bb (oo + i * 2)) 15 rfl (Nat.le_of_ble_eq_true rfl) rfl rfl (x_idx (i) (oo + i * 2) rfl rfl rfl Try.underlying22 sz67 (by omega) (by omega) (by omega)) ?_
    refine WL.pure (v := vP bb (oo + i * 2 + 1)) 16 rfl (Nat.le_of_ble_eq_true rfl) rfl rfl (by kernel_rfl) ?_
    refine WL.pure (v := vI (sp i)) 17 rfl (Nat.le_of_ble_eq_true rfl) rfl rfl (x_load rfl rfl Try.underlying3 rfl ((HP.oldRange hH15 trivial (hrow i (by omega))) 1 _ rfl)) ?_
    by_cases hkl : (k : Int) < sp i
    ·
      refine WL.pure (v := .bool true) 18 rfl (Nat.le_of_ble_eq_true rfl) rfl rfl (x_lss rfl rfl rfl (dT (hkl))) ?_
      refine WL.nil ?_
      refine WQ.then ?_
      refine hK17 _ _ _ ?_
      refine WC.sub (l' := [(0, .slice (some ⟨bb, oo, none⟩) N cap), (3, .slice pu zs.length cu), (4, vI (i : Int)), (5, vI (k : Int)), (18, .bool true)]) ⟨rfl, rfl, rfl, rfl, rfl, trivial⟩ ?_
      refine WC.yes rfl ?_
      refine WC.skip ?_
      refine WQ.then ?_
      refine hK16 _ _ _ ?_
      refine WC.seq fun K18 hK18 => ?_
      refine WC.block ?_
      refine WC.region ?_
      refine WL.pure (v := .slice pu zs.length cu) 21 rfl (Nat.le_of_ble_eq_true rfl) rfl rfl (by kernel_rfl) ?_
      refine WL.pure (v := .slice (some ⟨bb, oo, none⟩) N cap) 22 rfl (Nat.le_of_ble_eq_true rfl) rfl rfl (by kernel_rfl) ?_
      refine WL.pure (v := vI (i : Int)) 23 rfl (Nat.le_of_ble_eq_true rfl) rfl rfl (by kernel_rfl) ?_
      refine WL.pure (v := vP bb (oo + i * 2)) 24 rfl (Nat.le_of_ble_eq_true rfl) rfl rfl (x_idx (i) (oo + i * 2) rfl rfl rfl Try.underlying22 sz67 (by omega) (by omega) (by omega)) ?_
      refine WL.pure (v := vP bb (oo + i * 2)) 25 rfl (Nat.le_of_ble_eq_true rfl) rfl rfl (by kernel_rfl) ?_
      refine WL.pure (v := vI (o i)) 26 rfl (Nat.le_of_ble_eq_true rfl) rfl rfl (x_load rfl rfl Try.underlying3 rfl ((HP.oldRange hH15 trivial (hrow i (by omega))) 0 _ rfl)) ?_
      refine WL.alloc (c := #[vI (o i)]) (T := 3) hH15 27 rfl (by decide) rfl rfl (fun b19 => vS b19 1 1) (by kernel_rfl) (fun b19 w20 hw20 => ?_)
      have hH21 : HP Tr w w20 [rowI' pu cu zs, .cel b19 #[vI (o i)] 3] := hw20.2
      have nb19 := hw20.1
      clear hw20
      obtain ⟨i0, hi0, hz0, hz1, hz2⟩ := infoI
      refine WL.append (news := [vI (o i)]) 0 1 hH21 28 rfl (by decide) rfl rfl rfl rfl Try.underlying23 hi0 hz0 hz1 hz2 rfl (by decide) rfl rfl rfl rfl (by simp [Value.oneCell']) (by unfold maxLen; omega) (by omega) ?_
      rintro v8 w8 - hA8
      obtain ⟨pv8, cp8, rfl⟩ := own_row (HP.get hA8 0 rfl)
      have e8 : zs.length + 1 = (zs ++ [o i]).length := (len1 _ _).symm
      rw [iR_push, e8] at hA8
      rw [e8]
      have hH22 : HP Tr w _ [rowI' pv8 cp8 (zs ++ [o i]), .cel b19 #[vI (o i)] 3] := hA8
      refine WL.pure (v := .slice pv8 ((zs ++ [o i]).length) cp8) 3 rfl (Nat.le_of_ble_eq_true rfl) rfl rfl (by kernel_rfl) ?_
      refine WL.nil ?_
      refine WQ.inNormal ?_
      refine WQ.then ?_
      refine hK18 _ _ _ ?_
      refine WC.sub (l' := [(0, .slice (some ⟨bb, oo, none⟩) N cap), (3, .slice pv8 ((zs ++ [o i]).length) cp8), (4, vI (i : Int)), (5, vI (k : Int)), (18, .bool true)]) ⟨rfl, rfl, rfl, rfl, rfl, trivial⟩ ?_
      refine WC.region ?_
      refine WL.pure (v := vI (k : Int)) 19 rfl (Nat.le_of_ble_eq_true rfl) rfl rfl (by kernel_rfl) ?_
      refine WL.pure (v := vI ((k + 1 : Nat) : Int)) 20 rfl (Nat.le_of_ble_eq_true rfl) rfl rfl (x_add (Z := ((k + 1 : Nat) : Int)) rfl rfl rfl (by omega) (by omega) (by omega)) ?_
      refine WL.pure (v := vI ((k + 1 : Nat) : Int)) 5 rfl (Nat.le_of_ble_eq_true rfl) rfl rfl (by kernel_rfl) ?_
      refine WL.nil ?_
      refine WQ.sub (l' := [(0, .slice (some ⟨bb, oo, none⟩) N cap), (3, .slice pv8 ((zs ++ [o i]).length) cp8), (4, vI (i : Int)), (5, vI ((k + 1 : Nat) : Int))]) ⟨rfl, rfl, rfl, rfl, trivial⟩ ?_
      refine WQ.then (hK13 _ _ _ (by omega) ⟨k + 1, (zs ++ [o i]), pv8, cp8, rfl, rfl, by omega, by rw [rep_succ, ← List.append_assoc, hzs], (HP.drop hH22 1)⟩)
    ·
      refine WL.pure (v := .bool false) 18 rfl (Nat.le_of_ble_eq_true rfl) rfl rfl (x_lss rfl rfl rfl (dF (hkl))) ?_
      refine WL.nil ?_
      refine WQ.then ?_
      refine hK17 _ _ _ ?_
      refine WC.sub (l' := [(0, .slice (some ⟨bb, oo, none⟩) N cap), (3, .slice pu zs.length cu), (4, vI (i : Int)), (5, vI (k : Int)), (18, .bool false)]) ⟨rfl, rfl, rfl, rfl, rfl, trivial⟩ ?_
      refine WC.no rfl ?_
      refine WC.exit ?_
      refine WQ.thenExit ?_
      refine WQ.thenExit ?_
      refine WQ.inExit ?_
      refine WQ.inNormal ?_
      refine WQ.then ?_
      refine hK11 _ _ _ ?_
      refine WC.region ?_
      refine WL.pure (v := vI (i : Int)) 10 rfl (Nat.le_of_ble_eq_true rfl) rfl rfl (by kernel_rfl) ?_
      refine WL.pure (v := vI ((i + 1 : Nat) : Int)) 11 rfl (Nat.le_of_ble_eq_true rfl) rfl rfl (x_add (Z := ((i + 1 : Nat) : Int)) rfl rfl rfl (by omega) (by omega) (by omega)) ?_
      refine WL.pure (v := vI ((i + 1 : Nat) : Int)) 4 rfl (Nat.le_of_ble_eq_true rfl) rfl rfl (by kernel_rfl) ?_
      refine WL.nil ?_
      obtain rfl : k = sn := by omega
      refine WQ.sub (l' := [(0, .slice (some ⟨bb, oo, none⟩) N cap), (3, .slice pu zs.length cu), (4, vI ((i + 1 : Nat) : Int))]) ⟨rfl, rfl, rfl, trivial⟩ ?_
      refine WQ.then (hK6 _ _ _ (by omega) ⟨i + 1, zs, pu, cu, rfl, rfl, by omega, by rw [hzs, hxs]; show _ = owl o sp i ++ List.replicate (sp i).toNat (o i); rw [hsn, Int.toNat_natCast], hH15⟩)
  ·
    refine WL.pure (v := .bool false) 9 rfl (Nat.le_of_ble_eq_true rfl) rfl rfl (x_lss rfl rfl rfl (dF (hlt))) ?_
    refine WL.nil ?_
    refine WQ.then ?_
    refine hK10 _ _ _ ?_
    refine WC.no rfl ?_
    refine WC.exit ?_
    refine WQ.thenExit ?_
    refine WQ.thenExit ?_
    refine WQ.inExit ?_
    refine WQ.then ?_
    refine hK4 _ _ _ ?_
    refine WC.seq fun K23 hK23 => ?_
    refine WC.region ?_
    refine WL.pure (v := .slice pv xs.length cv) 29 rfl (Nat.le_of_ble_eq_true rfl) rfl rfl (by kernel_rfl) ?_
    refine WL.pure (v := .slice pv xs.length cv) 2 rfl (Nat.le_of_ble_eq_true rfl) rfl rfl (by kernel_rfl) ?_
    refine WL.nil ?_
    refine WQ.then ?_
    refine hK23 _ _ _ ?_
    refine WC.ret ?_
    refine WQ.ret1 2 rfl rfl ?_
    obtain rfl : i = N := by omega
    exact ⟨pv, cv, by rw [hxs], by rw [← hxs]; exact row_in (HP.get hH8 0 rfl), HP.below hH8⟩
set_option maxRecDepth 20000 in
set_option maxHeartbeats 4000000 in
theorem count_any (px : Option Addr) (cap : Nat) (l : List Int) (m : Int) (w : World) (hI : InI w px l) (hl : l.length ≤ 400) :
    Calls Try.prog 14 #[.slice px l.length cap, vI m] w fun e w' => e = .returned (.int .i64 ((posI l m).length : Int)) ∧ Below w.heap.size w w' := by
  refine calls_of Try.func14 rfl (m := 22) rfl [(0, .slice px l.length cap), (1, vI m)] (Fr_enter [.slice px l.length cap, vI m] 22 (Nat.le_of_ble_eq_true rfl)) ?_
  have hH1 : HP Tr w w [] := HP.refl w
  refine WC.seq fun K2 hK2 => ?_
  refine WC.region ?_
  refine WL.pure (v := vI 0) 4 rfl (Nat.le_of_ble_eq_true rfl) rfl rfl (by kernel_rfl) ?_
  refine WL.nil ?_
  refine WQ.then ?_
  refine hK2 _ _ _ ?_
  refine WC.seq fun K3 hK3 => ?_
  refine WC.region ?_
  refine WL.pure (v := vI 0) 5 rfl (Nat.le_of_ble_eq_true rfl) rfl rfl (by kernel_rfl) ?_
  refine WL.nil ?_
  refine WQ.then ?_
  refine hK3 _ _ _ ?_
  refine WC.seq fun K4 hK4 => ?_
  refine WC.seq fun K5 hK5 => ?_
  refine WC.region ?_
  refine WL.pure (v := vI 0) 6 rfl (Nat.le_of_ble_eq_true rfl) rfl rfl (by kernel_rfl) ?_
  refine WL.nil ?_
  refine WQ.then ?_
  refine hK5 _ _ _ ?_
  refine WC.block ?_
  refine WC.loop (fun kk0 ll0 ww0 => ∃ (i : Nat) (k : Nat), ll0 = [(0, .slice px l.length cap), (1, vI m), (5, vI (k : Int)), (6, vI (i : Int))] ∧ kk0 = l.length - i ∧ (i ≤ l.length) ∧ (k = (posI (l.take i) m).length) ∧ HP Tr w ww0 []) (l.length) [(0, .slice px l.length cap), (1, vI m), (5, vI 0), (6, vI 0)] ⟨rfl, rfl, rfl, rfl, trivial⟩ ⟨0, 0, rfl, rfl, Nat.zero_le _, by rw [List.take_zero]; rfl, hH1⟩ ?_
  rintro kk l w7 ⟨i, k, rfl, hkk, hi, hk, hH8⟩ K6 hK6
  refine WC.seq fun K9 hK9 => ?_
  refine WC.seq fun K10 hK10 => ?_
  refine WC.region ?_
  refine WL.pure (v := vI (i : Int)) 7 rfl (Nat.le_of_ble_eq_true rfl) rfl rfl (by kernel_rfl) ?_
  refine WL.pure (v := .slice px l.length cap) 8 rfl (Nat.le_of_ble_eq_true rfl) rfl rfl (by kernel_rfl) ?_
  refine WL.pure (v := vI (l.length : Int)) 9 rfl (Nat.le_of_ble_eq_true rfl) rfl rfl (by kernel_rfl) ?_
  by_cases hlt : (i : Int) < (l.length : Int)
  ·
    refine WL.pure (v := .bool true) 10 rfl (Nat.le_of_ble_eq_true rfl) rfl rfl (x_lss rfl rfl rfl (dT (hlt))) ?_
    refine WL.nil ?_
    refine WQ.then ?_
    refine hK10 _ _ _ ?_
    refine WC.yes rfl ?_
    refine WC.skip ?_
    refine WQ.then ?_
    refine hK9 _ _ _ ?_
    refine WC.seq fun K11 hK11 => ?_
    refine WC.block ?_
    refine WC.seq fun K12 hK12 => ?_
    obtain ⟨gx, ox, rfl, hrow⟩ := hI (by omega)
    refine WC.region ?_
    refine WL.pure (v := .slice (some ⟨gx, ox, none⟩) l.length cap) 13 rfl (Nat.le_of_ble_eq_true rfl) rfl rfl (by kernel_rfl) ?_
    refine WL.pure (v := vI (i : Int)) 14 rfl (Nat.le_of_ble_eq_true rfl) rfl rfl (by kernel_rfl) ?_
    refine WL.pure (v := vP gx (ox + i)) 15 rfl (Nat.le_of_ble_eq_true rfl) rfl rfl (x_idx (i) (ox + i) rfl rfl rfl Try.underlying23 sz3 (by omega) (by omega) (by omega)) ?_
    refine WL.pure (v := vI (l.getD i 0)) 16 rfl (Nat.le_of_ble_eq_true rfl) rfl rfl (x_load rfl rfl Try.underlying3 rfl ((HP.oldRange hH8 trivial (hrow i (by omega))) 0 _ rfl)) ?_
    refine WL.pure (v := vI m) 17 rfl (Nat.le_of_ble_eq_true rfl) rfl rfl (by kernel_rfl) ?_
    by_cases h18 : l.getD i 0 = m
    ·
      refine WL.pure (v := .bool true) 18 rfl (Nat.le_of_ble_eq_true rfl) rfl rfl (x_eql rfl rfl rfl (dT (h18))) ?_
      refine WL.nil ?_
      refine WQ.then ?_
      refine hK12 _ _ _ ?_
      refine WC.sub (l' := [(0, .slice (some ⟨gx, ox, none⟩) l.length cap), (1, vI m), (5, vI (k : Int)), (6, vI (i : Int)), (10, .bool true), (18, .bool true)]) ⟨rfl, rfl, rfl, rfl, rfl, rfl, trivial⟩ ?_
      refine WC.yes rfl ?_
      refine WC.region ?_
      refine WL.pure (v := vI (k : Int)) 19 rfl (Nat.le_of_ble_eq_true rfl) rfl rfl (by kernel_rfl) ?_
      refine WL.pure (v := vI ((k + 1 : Nat) : Int)) 20 rfl (Nat.le_of_ble_eq_true rfl) rfl rfl (x_add (Z := ((k + 1 : Nat) : Int)) rfl rfl rfl (by omega) (by omega) (by have := posI_len (l.take i) m; rw [← hk, List.length_take] at this; omega)) ?_
      refine WL.pure (v := vI ((k + 1 : Nat) : Int)) 5 rfl (Nat.le_of_ble_eq_true rfl) rfl rfl (by kernel_rfl) ?_
      refine WL.nil ?_
      refine WQ.inNormal ?_
      refine WQ.then ?_
      refine hK11 _ _ _ ?_
      refine WC.region ?_
      refine WL.pure (v := vI (i : Int)) 11 rfl (Nat.le_of_ble_eq_true rfl) rfl rfl (by kernel_rfl) ?_
      refine WL.pure (v := vI ((i + 1 : Nat) : Int)) 12 rfl (Nat.le_of_ble_eq_true rfl) rfl rfl (x_add (Z := ((i + 1 : Nat) : Int)) rfl rfl rfl (by omega) (by omega) (by omega)) ?_
      refine WL.pure (v := vI ((i + 1 : Nat) : Int)) 6 rfl (Nat.le_of_ble_eq_true rfl) rfl rfl (by kernel_rfl) ?_
      refine WL.nil ?_
      refine WQ.sub (l' := [(0, .slice (some ⟨gx, ox, none⟩) l.length cap), (1, vI m), (5, vI ((k + 1 : Nat) : Int)), (6, vI ((i + 1 : Nat) : Int))]) ⟨rfl, rfl, rfl, rfl, trivial⟩ ?_
      refine WQ.then (hK6 _ _ _ (by omega) ⟨i + 1, k + 1, rfl, rfl, by omega, cnt_yes (by omega) hk h18, hH8⟩)
    ·
      refine WL.pure (v := .bool false) 18 rfl (Nat.le_of_ble_eq_true rfl) rfl rfl (x_eql rfl rfl rfl (dF (h18))) ?_
      refine WL.nil ?_
      refine WQ.then ?_
      refine hK12 _ _ _ ?_
      refine WC.sub (l' := [(0, .slice (some ⟨gx, ox, none⟩) l.length cap), (1, vI m), (5, vI (k : Int)), (6, vI (i : Int)), (10, .bool true), (18, .bool false)]) ⟨rfl, rfl, rfl, rfl, rfl, rfl, trivial⟩ ?_
      refine WC.no rfl ?_
      refine WC.skip ?_
      refine WQ.inNormal ?_
      refine WQ.then ?_
      refine hK11 _ _ _ ?_
      refine WC.region ?_
      refine WL.pure (v := vI (i : Int)) 11 rfl (Nat.le_of_ble_eq_true rfl) rfl rfl (by kernel_rfl) ?_
      refine WL.pure (v := vI ((i + 1 : Nat) : Int)) 12 rfl (Nat.le_of_ble_eq_true rfl) rfl rfl (x_add (Z := ((i + 1 : Nat) : Int)) rfl rfl rfl (by omega) (by omega) (by omega)) ?_
      refine WL.pure (v := vI ((i + 1 : Nat) : Int)) 6 rfl (Nat.le_of_ble_eq_true rfl) rfl rfl (by kernel_rfl) ?_
      refine WL.nil ?_
      refine WQ.sub (l' := [(0, .slice (some ⟨gx, ox, none⟩) l.length cap), (1, vI m), (5, vI (k : Int)), (6, vI ((i + 1 : Nat) : Int))]) ⟨rfl, rfl, rfl, rfl, trivial⟩ ?_
      refine WQ.then (hK6 _ _ _ (by omega) ⟨i + 1, k, rfl, rfl, by omega, cnt_no (by omega) hk h18, hH8⟩)
  ·
    refine WL.pure (v := .bool false) 10 rfl (Nat.le_of_ble_eq_true rfl) rfl rfl (x_lss rfl rfl rfl (dF (hlt))) ?_
    refine WL.nil ?_
    refine WQ.then ?_
    refine hK10 _ _ _ ?_
    refine WC.no rfl ?_
    refine WC.exit ?_
    refine WQ.thenExit ?_
    refine WQ.thenExit ?_
    refine WQ.inExit ?_
    refine WQ.then ?_
    refine hK4 _ _ _ ?_
    refine WC.seq fun K13 hK13 => ?_
    refine WC.region ?_
    refine WL.pure (v := vI (k : Int)) 21 rfl (Nat.le_of_ble_eq_true rfl) rfl rfl (by kernel_rfl) ?_
    refine WL.pure (v := vI (k : Int)) 4 rfl (Nat.le_of_ble_eq_true rfl) rfl rfl (by kernel_rfl) ?_
    refine WL.nil ?_
    refine WQ.then ?_
    refine hK13 _ _ _ ?_
    refine WC.ret ?_
    refine WQ.ret1 4 rfl rfl ?_
    have hfin : (k : Int) = ((posI l m).length : Int) := by rw [hk, List.take_of_length_le (by omega)]
    exact ⟨by rw [← hfin], HP.below hH8⟩
set_option maxRecDepth 20000 in
set_option maxHeartbeats 4000000 in
theorem delay_any (px : Option Addr) (cap : Nat) (l : List Int) (m : Int) (mo n i0 : Nat) (w : World) (hI : InI w px l) (hl : l.length ≤ 400) (hi0 : i0 < l.length) (hm0 : l.getD i0 0 = m) (hmo : mo ≤ 10000) (hn : n ≤ 100) :
    Calls Try.prog 15 #[.slice px l.length cap, vI m, vI (mo : Int), vI (n : Int)] w fun e w' => ∃ d : Fin 50001, e = .returned (.int .i64 ((d : Nat) : Int)) ∧ Below w.heap.size w w' := by
  have hd0 := ds_lt (i0 := i0) (F := l.length) (y := mo) (by omega)
  have hM0 : n * l.length ≤ 100 * 400 := Nat.mul_le_mul hn hl
  refine calls_of Try.func15 rfl (m := 28) rfl [(0, .slice px l.length cap), (1, vI m), (2, vI (mo : Int)), (3, vI (n : Int))] (Fr_enter [.slice px l.length cap, vI m, vI (mo : Int), vI (n : Int)] 28 (Nat.le_of_ble_eq_true rfl)) ?_
  have hH1 : HP Tr w w [] := HP.refl w
  refine WC.seq fun K2 hK2 => ?_
  refine WC.region ?_
  refine WL.pure (v := vI 0) 8 rfl (Nat.le_of_ble_eq_true rfl) rfl rfl (by kernel_rfl) ?_
  refine WL.nil ?_
  refine WQ.then ?_
  refine hK2 _ _ _ ?_
  refine WC.seq fun K3 hK3 => ?_
  refine WC.region ?_
  refine WL.pure (v := vI 0) 9 rfl (Nat.le_of_ble_eq_true rfl) rfl rfl (by kernel_rfl) ?_
  refine WL.nil ?_
  refine WQ.then ?_
  refine hK3 _ _ _ ?_
  refine WC.seq fun K4 hK4 => ?_
  refine WC.block ?_
  refine WC.loop (fun kk0 ll0 ww0 => ∃ (k : Nat) (d : Nat), ll0 = [(0, .slice px l.length cap), (1, vI m), (2, vI (mo : Int)), (3, vI (k : Int)), (9, vI (d : Int))] ∧ kk0 = k * l.length + ds i0 l.length (mo + d) ∧ (d + (k * l.length + ds i0 l.length (mo + d)) ≤ n * l.length + ds i0 l.length mo) ∧ (k ≤ n) ∧ HP Tr w ww0 []) (n * l.length + ds i0 l.length mo) [(0, .slice px l.length cap), (1, vI m), (2, vI (mo : Int)), (3, vI (n : Int)), (9, vI 0)] ⟨rfl, rfl, rfl, rfl, rfl, trivial⟩ ⟨n, 0, rfl, rfl, by simp, Nat.le_refl _, hH1⟩ ?_
  rintro kk l w6 ⟨k, d, rfl, hkk, hM, hkn, hH7⟩ K5 hK5
  refine WC.seq fun K8 hK8 => ?_
  refine WC.seq fun K9 hK9 => ?_
  refine WC.region ?_
  refine WL.pure (v := vI (k : Int)) 10 rfl (Nat.le_of_ble_eq_true rfl) rfl rfl (by kernel_rfl) ?_
  by_cases h11 : (0 : Int) < (k : Int)
  ·
    refine WL.pure (v := .bool true) 11 rfl (Nat.le_of_ble_eq_true rfl) rfl rfl (x_gtr rfl rfl rfl (dT (h11))) ?_
    refine WL.nil ?_
    refine WQ.then ?_
    refine hK9 _ _ _ ?_
    refine WC.yes rfl ?_
    refine WC.skip ?_
    refine WQ.then ?_
    refine hK8 _ _ _ ?_
    refine WC.block ?_
    refine WC.seq fun K10 hK10 => ?_
    refine WC.seq fun K11 hK11 => ?_
    obtain ⟨gx, ox, rfl, hrow⟩ := hI (by omega)
    have hmod : (mo + d) % l.length < l.length := Nat.mod_lt _ (by omega)
    refine WC.region ?_
    refine WL.pure (v := .slice (some ⟨gx, ox, none⟩) l.length cap) 12 rfl (Nat.le_of_ble_eq_true rfl) rfl rfl (by kernel_rfl) ?_
    refine WL.pure (v := vI (mo : Int)) 13 rfl (Nat.le_of_ble_eq_true rfl) rfl rfl (by kernel_rfl) ?_
    refine WL.pure (v := vI (d : Int)) 14 rfl (Nat.le_of_ble_eq_true rfl) rfl rfl (by kernel_rfl) ?_
    refine WL.pure (v := vI ((mo + d : Nat) : Int)) 15 rfl (Nat.le_of_ble_eq_true rfl) rfl rfl (x_add (Z := ((mo + d : Nat) : Int)) rfl rfl rfl (by omega) (by omega) (by omega)) ?_
    refine WL.pure (v := .slice (some ⟨gx, ox, none⟩) l.length cap) 16 rfl (Nat.le_of_ble_eq_true rfl) rfl rfl (by kernel_rfl) ?_
    refine WL.pure (v := vI (l.length : Int)) 17 rfl (Nat.le_of_ble_eq_true rfl) rfl rfl (by kernel_rfl) ?_
    refine WL.pure (v := vI (((mo + d) % l.length : Nat) : Int)) 18 rfl (Nat.le_of_ble_eq_true rfl) rfl rfl (x_rem (Z := (((mo + d) % l.length : Nat) : Int)) rfl rfl rfl (by omega) (tmodN)) ?_
    refine WL.pure (v := vP gx (ox + (mo + d) % l.length)) 19 rfl (Nat.le_of_ble_eq_true rfl) rfl rfl (x_idx ((mo + d) % l.length) (ox + (mo + d) % l.length) rfl rfl rfl Try.underlying23 sz3 (by omega) (by omega) (by omega)) ?_
    refine WL.pure (v := vI (l.getD ((mo + d) % l.length) 0)) 20 rfl (Nat.le_of_ble_eq_true rfl) rfl rfl (x_load rfl rfl Try.underlying3 rfl ((HP.oldRange hH7 trivial (hrow ((mo + d) % l.length) (by omega))) 0 _ rfl)) ?_
    refine WL.pure (v := vI m) 21 rfl (Nat.le_of_ble_eq_true rfl) rfl rfl (by kernel_rfl) ?_
    by_cases h22 : l.getD ((mo + d) % l.length) 0 = m
    ·
      have hds := ds_lt (i0 := i0) (F := l.length) (y := mo + d + 1) (by omega)
      obtain ⟨k9, hk9⟩ : ∃ k9, k = k9 + 1 := ⟨k - 1, by omega⟩
      have hmul : k * l.length = k9 * l.length + l.length := by rw [hk9, Nat.succ_mul]
      refine WL.pure (v := .bool true) 22 rfl (Nat.le_of_ble_eq_true rfl) rfl rfl (x_eql rfl rfl rfl (dT (h22))) ?_
      refine WL.nil ?_
      refine WQ.then ?_
      refine hK11 _ _ _ ?_
      refine WC.sub (l' := [(0, .slice (some ⟨gx, ox, none⟩) l.length cap), (1, vI m), (2, vI (mo : Int)), (3, vI (k : Int)), (9, vI (d : Int)), (11, .bool true), (22, .bool true)]) ⟨rfl, rfl, rfl, rfl, rfl, rfl, rfl, trivial⟩ ?_
      refine WC.yes rfl ?_
      refine WC.region ?_
      refine WL.pure (v := vI (k : Int)) 23 rfl (Nat.le_of_ble_eq_true rfl) rfl rfl (by kernel_rfl) ?_
      refine WL.pure (v := vI (k9 : Int)) 24 rfl (Nat.le_of_ble_eq_true rfl) rfl rfl (x_sub (Z := (k9 : Int)) rfl rfl rfl (by omega) (by omega) (by omega)) ?_
      refine WL.pure (v := vI (k9 : Int)) 3 rfl (Nat.le_of_ble_eq_true rfl) rfl rfl (by kernel_rfl) ?_
      refine WL.nil ?_
      refine WQ.then ?_
      refine hK10 _ _ _ ?_
      refine WC.region ?_
      refine WL.pure (v := vI (d : Int)) 25 rfl (Nat.le_of_ble_eq_true rfl) rfl rfl (by kernel_rfl) ?_
      refine WL.pure (v := vI ((d + 1 : Nat) : Int)) 26 rfl (Nat.le_of_ble_eq_true rfl) rfl rfl (x_add (Z := ((d + 1 : Nat) : Int)) rfl rfl rfl (by omega) (by omega) (by omega)) ?_
      refine WL.pure (v := vI ((d + 1 : Nat) : Int)) 9 rfl (Nat.le_of_ble_eq_true rfl) rfl rfl (by kernel_rfl) ?_
      refine WL.nil ?_
      refine WQ.inNormal ?_
      refine WQ.sub (l' := [(0, .slice (some ⟨gx, ox, none⟩) l.length cap), (1, vI m), (2, vI (mo : Int)), (3, vI (k9 : Int)), (9, vI ((d + 1 : Nat) : Int))]) ⟨rfl, rfl, rfl, rfl, rfl, trivial⟩ ?_
      refine WQ.then (hK5 _ _ _ (by rw [show mo + (d + 1) = mo + d + 1 from rfl]; omega) ⟨k9, d + 1, rfl, rfl, by rw [show mo + (d + 1) = mo + d + 1 from rfl]; omega, by omega, hH7⟩)
    ·
      have hst := ds_step (i0 := i0) (F := l.length) (y := mo + d) hi0 (fun q => h22 (by rw [q]; exact hm0))
      refine WL.pure (v := .bool false) 22 rfl (Nat.le_of_ble_eq_true rfl) rfl rfl (x_eql rfl rfl rfl (dF (h22))) ?_
      refine WL.nil ?_
      refine WQ.then ?_
      refine hK11 _ _ _ ?_
      refine WC.sub (l' := [(0, .slice (some ⟨gx, ox, none⟩) l.length cap), (1, vI m), (2, vI (mo : Int)), (3, vI (k : Int)), (9, vI (d : Int)), (11, .bool true), (22, .bool false)]) ⟨rfl, rfl, rfl, rfl, rfl, rfl, rfl, trivial⟩ ?_
      refine WC.no rfl ?_
      refine WC.skip ?_
      refine WQ.then ?_
      refine hK10 _ _ _ ?_
      refine WC.region ?_
      refine WL.pure (v := vI (d : Int)) 25 rfl (Nat.le_of_ble_eq_true rfl) rfl rfl (by kernel_rfl) ?_
      refine WL.pure (v := vI ((d + 1 : Nat) : Int)) 26 rfl (Nat.le_of_ble_eq_true rfl) rfl rfl (x_add (Z := ((d + 1 : Nat) : Int)) rfl rfl rfl (by omega) (by omega) (by omega)) ?_
      refine WL.pure (v := vI ((d + 1 : Nat) : Int)) 9 rfl (Nat.le_of_ble_eq_true rfl) rfl rfl (by kernel_rfl) ?_
      refine WL.nil ?_
      refine WQ.inNormal ?_
      refine WQ.sub (l' := [(0, .slice (some ⟨gx, ox, none⟩) l.length cap), (1, vI m), (2, vI (mo : Int)), (3, vI (k : Int)), (9, vI ((d + 1 : Nat) : Int))]) ⟨rfl, rfl, rfl, rfl, rfl, trivial⟩ ?_
      refine WQ.then (hK5 _ _ _ (by rw [show mo + (d + 1) = mo + d + 1 from rfl]; omega) ⟨k, d + 1, rfl, rfl, by rw [show mo + (d + 1) = mo + d + 1 from rfl]; omega, by omega, hH7⟩)
  ·
    refine WL.pure (v := .bool false) 11 rfl (Nat.le_of_ble_eq_true rfl) rfl rfl (x_gtr rfl rfl rfl (dF (h11))) ?_
    refine WL.nil ?_
    refine WQ.then ?_
    refine hK9 _ _ _ ?_
    refine WC.no rfl ?_
    refine WC.exit ?_
    refine WQ.thenExit ?_
    refine WQ.thenExit ?_
    refine WQ.inExit ?_
    refine WQ.then ?_
    refine hK4 _ _ _ ?_
    refine WC.seq fun K12 hK12 => ?_
    refine WC.region ?_
    refine WL.pure (v := vI (d : Int)) 27 rfl (Nat.le_of_ble_eq_true rfl) rfl rfl (by kernel_rfl) ?_
    refine WL.pure (v := vI (d : Int)) 8 rfl (Nat.le_of_ble_eq_true rfl) rfl rfl (by kernel_rfl) ?_
    refine WL.nil ?_
    refine WQ.then ?_
    refine hK12 _ _ _ ?_
    refine WC.ret ?_
    refine WQ.ret1 8 rfl rfl ?_
    exact ⟨⟨d, by omega⟩, rfl, HP.below hH7⟩
set_option maxRecDepth 20000 in
set_option maxHeartbeats 4000000 in
theorem rEnd_any (p : Option Addr) (N cap : Nat) (o sp : Nat → Int) (m t n : Int) (w : World) (hS : InS w p N o sp) (hok : 1 ≤ N ∧ N ≤ 8 ∧ ∀ i, i < N → okS1 (o i) (sp i) = true) :
    Calls Try.prog 6 #[.slice p N cap, .agg #[vI m, vI t, vI n]] w fun e w' => ∃ d er : Int, e = .returned (.tuple #[vI d, vI er]) ∧ (er = 0 → okR m t n = true ∧ 0 < (posI (owl o sp N) m).length) ∧ Below w.heap.size w w' := by
  refine calls_of Try.func6 rfl (m := 32) rfl [(0, .slice p N cap), (1, .agg #[vI m, vI t, vI n])] (Fr_enter [.slice p N cap, .agg #[vI m, vI t, vI n]] 32 (Nat.le_of_ble_eq_true rfl)) ?_
  have hH1 : HP Tr w w [] := HP.refl w
  refine WC.seq fun K2 hK2 => ?_
  refine WC.region ?_
  refine WL.alloc (c := #[vI m, vI t, vI n]) (T := 30) hH1 3 rfl (by decide) rfl rfl (fun b3 => vP b3 0) (by kernel_rfl) (fun b3 w3 hw3 => ?_)
  have hH4 : HP Tr w w3 [.cel b3 #[vI m, vI t, vI n] 30] := hw3.2
  have nb3 := hw3.1
  clear hw3
  refine WL.pure (v := vI 0) 4 rfl (Nat.le_of_ble_eq_true rfl) rfl rfl (by kernel_rfl) ?_
  refine WL.pure (v := vI 0) 5 rfl (Nat.le_of_ble_eq_true rfl) rfl rfl (by kernel_rfl) ?_
  refine WL.nil ?_
  refine WQ.then ?_
  refine hK2 _ _ _ ?_
  refine WC.seq fun K5 hK5 => ?_
  refine WC.region ?_
  refine WL.pure (v := .slice p N cap) 8 rfl (Nat.le_of_ble_eq_true rfl) rfl rfl (by kernel_rfl) ?_
  refine WL.pure (v := .agg #[vI m, vI t, vI n]) 9 rfl (Nat.le_of_ble_eq_true rfl) rfl rfl (x_loadS (cs := [vI m, vI t, vI n]) rfl rfl Try.underlying30 rfl sz30 (HP.range hH4 0 rfl rfl)) ?_
  have qa := fun w hS => request_any p N cap o sp m t n w hS hok
  rcases Bool.eq_false_or_eq_true (okR m t n) with hr9 | hr9
  ·
    rw [hr9] at qa
    refine WL.call (f := 12) (args := #[.slice p N cap, .agg #[vI m, vI t, vI n]]) 10 rfl (Nat.le_of_ble_eq_true rfl) rfl rfl (by kernel_rfl) ?_
    refine (qa _ (hS.below (HP.below hH4))).mono ?_
    rintro e w6 ⟨rfl, hb7⟩
    refine ⟨_, rfl, ?_⟩
    have hH8 : HP Tr w _ [.cel b3 #[vI m, vI t, vI n] 30] := HP.call hH4 hb7
    obtain ⟨⟨hm1, hm2⟩, ⟨ht1, ht2⟩, hn1, hn2⟩ := okR_iff.1 hr9
    have hlen := owl_len (o := o) (sp := sp) N (fun q hq => (okS1_iff.1 (hok.2.2 q hq)).2)
    refine WL.pure (v := vI 0) 6 rfl (Nat.le_of_ble_eq_true rfl) rfl rfl (by kernel_rfl) ?_
    refine WL.nil ?_
    refine WQ.then ?_
    refine hK5 _ _ _ ?_
    refine WC.seq fun K9 hK9 => ?_
    refine WC.seq fun K10 hK10 => ?_
    refine WC.region ?_
    refine WL.pure (v := vI 0) 11 rfl (Nat.le_of_ble_eq_true rfl) rfl rfl (by kernel_rfl) ?_
    refine WL.pure (v := .bool false) 12 rfl (Nat.le_of_ble_eq_true rfl) rfl rfl (x_neq rfl rfl rfl (by decide)) ?_
    refine WL.nil ?_
    refine WQ.then ?_
    refine hK10 _ _ _ ?_
    refine WC.no rfl ?_
    refine WC.skip ?_
    refine WQ.then ?_
    refine hK9 _ _ _ ?_
    refine WC.seq fun K11 hK11 => ?_
    refine WC.region ?_
    refine WL.pure (v := .slice p N cap) 14 rfl (Nat.le_of_ble_eq_true rfl) rfl rfl (by kernel_rfl) ?_
    refine WL.call (f := 13) (args := #[.slice p N cap]) 15 rfl (Nat.le_of_ble_eq_true rfl) rfl rfl (by kernel_rfl) ?_
    refine (table_any p N cap o sp _ (hS.below (HP.below hH8)) hok).mono ?_
    rintro e wt ⟨pv, cv, rfl, hI, hbt⟩
    refine ⟨_, rfl, ?_⟩
    have hHt := HP.call hH8 hbt
    have hbx : ∀ i9, i9 < 1 → World.rangeAt wt b3 0 [vI m, vI t, vI n] := fun i9 h9 => HP.range hHt 0 rfl rfl
    have hH12 : HP Tr wt wt [] := HP.refl wt
    refine WL.pure (v := .slice pv ((owl o sp N).length) cv) 7 rfl (Nat.le_of_ble_eq_true rfl) rfl rfl (by kernel_rfl) ?_
    refine WL.nil ?_
    refine WQ.then ?_
    refine hK11 _ _ _ ?_
    refine WC.sub (l' := [(0, .slice p N cap), (1, .agg #[vI m, vI t, vI n]), (3, vP b3 0), (4, vI 0), (5, vI 0), (6, vI 0), (7, .slice pv ((owl o sp N).length) cv), (12, .bool false)]) ⟨rfl, rfl, rfl, rfl, rfl, rfl, rfl, rfl, trivial⟩ ?_
    refine WC.seq fun K13 hK13 => ?_
    refine WC.seq fun K14 hK14 => ?_
    refine WC.region ?_
    refine WL.pure (v := .slice pv ((owl o sp N).length) cv) 16 rfl (Nat.le_of_ble_eq_true rfl) rfl rfl (by kernel_rfl) ?_
    refine WL.pure (v := vP b3 0) 17 rfl (Nat.le_of_ble_eq_true rfl) rfl rfl (by kernel_rfl) ?_
    refine WL.pure (v := vI m) 18 rfl (Nat.le_of_ble_eq_true rfl) rfl rfl (x_load rfl rfl Try.underlying3 rfl ((HP.oldRange hH12 trivial (hbx 0 (by omega))) 0 _ rfl)) ?_
    refine WL.call (f := 14) (args := #[.slice pv ((owl o sp N).length) cv, vI m]) 19 rfl (Nat.le_of_ble_eq_true rfl) rfl rfl (by kernel_rfl) ?_
    refine (count_any pv cv (owl o sp N) m _ (hI.below (HP.below hH12)) (by omega)).mono ?_
    rintro e w15 ⟨rfl, hb16⟩
    refine ⟨_, rfl, ?_⟩
    have hH17 : HP Tr wt _ [] := HP.call hH12 hb16
    by_cases h20 : ((posI (owl o sp N) m).length : Int) = 0
    ·
      refine WL.pure (v := .bool true) 20 rfl (Nat.le_of_ble_eq_true rfl) rfl rfl (x_eql rfl rfl rfl (dT (h20))) ?_
      refine WL.nil ?_
      refine WQ.then ?_
      refine hK14 _ _ _ ?_
      refine WC.yes rfl ?_
      refine WC.seq fun K18 hK18 => ?_
      refine WC.region ?_
      refine WL.pure (v := vI 0) 4 rfl (Nat.le_of_ble_eq_true rfl) rfl rfl (by kernel_rfl) ?_
      refine WL.pure (v := vI 3) 5 rfl (Nat.le_of_ble_eq_true rfl) rfl rfl (by kernel_rfl) ?_
      refine WL.nil ?_
      refine WQ.then ?_
      refine hK18 _ _ _ ?_
      refine WC.sub (l' := [(0, .slice p N cap), (1, .agg #[vI m, vI t, vI n]), (3, vP b3 0), (4, vI 0), (5, vI 3), (6, vI 0), (7, .slice pv ((owl o sp N).length) cv), (12, .bool false), (20, .bool true)]) ⟨rfl, rfl, rfl, rfl, rfl, rfl, rfl, rfl, rfl, trivial⟩ ?_
      refine WC.ret ?_
      refine WQ.thenRet ?_
      refine WQ.ret2 4 5 rfl rfl rfl ?_
      exact ⟨0, 3, rfl, fun q => absurd q (by decide), (HP.below (HP.call hHt (HP.below hH17)))⟩
    ·
      refine WL.pure (v := .bool false) 20 rfl (Nat.le_of_ble_eq_true rfl) rfl rfl (x_eql rfl rfl rfl (dF (h20))) ?_
      refine WL.nil ?_
      refine WQ.then ?_
      refine hK14 _ _ _ ?_
      refine WC.no rfl ?_
      refine WC.skip ?_
      refine WQ.then ?_
      refine hK13 _ _ _ ?_
      refine WC.seq fun K19 hK19 => ?_
      obtain ⟨mo, rfl⟩ : ∃ mo : Nat, t = (mo : Int) := ⟨t.toNat, by omega⟩
      obtain ⟨nn, rfl⟩ : ∃ nn : Nat, n = (nn : Int) := ⟨n.toNat, by omega⟩
      obtain ⟨i0, hx0, hi0, hm0⟩ := posI_at (l := (owl o sp N)) (m := m) (List.getElem_mem (l := posI (owl o sp N) m) (n := 0) (by omega))
      refine WC.confG (γ := Fin 50001 × Unit) [(20, .bool false), (19, vI ((posI (owl o sp N) m).length : Int)), (18, vI m), (17, vP b3 0), (16, .slice pv ((owl o sp N).length) cv), (0, .slice p N cap), (1, .agg #[vI m, vI (mo : Int), vI (nn : Int)]), (3, vP b3 0), (6, vI 0), (7, .slice pv ((owl o sp N).length) cv), (12, .bool false)] (fun gy => [vP b3 1, vI (mo : Int), .slice pv ((owl o sp N).length) cv, vP b3 0, vI m, vP b3 1, vI (mo : Int), vP b3 2, vI (nn : Int), vI ((gy.1 : Nat) : Int), vI ((mo : Int) + ((gy.1 : Nat) : Int)), vI ((mo : Int) + ((gy.1 : Nat) : Int)), vI 0]) (fun gy D wz => HP Tr wt wz []) (0, ()) (by kernel_rfl) ⟨rfl, rfl, rfl, rfl, rfl, rfl, rfl, rfl, rfl, rfl, rfl, trivial⟩ (by kernel_rfl) (by kernel_rfl) (by kernel_rfl) (fun _ => rfl) (by kernel_rfl) (HP.drew hH17) ?_ ?_
      · refine AllOk.cons ?o0 (AllOk.cons ?o1 (AllOk.cons ?o2 (AllOk.cons ?o3 (AllOk.cons ?o4 (AllOk.cons ?o5 (AllOk.cons ?o6 (AllOk.cons ?o7 (AllOk.cons ?o8 (AllOk.cons ?o9 (AllOk.cons ?o10 (AllOk.cons ?o11 (AllOk.cons ?o12 (AllOk.nil _)))))))))))))
        case o0 =>
          intro gy D wz hDi hdep hclo hW
          exact .inl ⟨rfl, rfl, .inl ⟨gy, wz, fun _ _ => rfl, by kernel_rfl, hW⟩⟩
        case o1 =>
          intro gy D wz hDi hdep hclo hW
          exact .inl ⟨rfl, rfl, .inl ⟨gy, wz, fun _ _ => rfl, x_load rfl rfl Try.underlying3 rfl ((HP.oldRange hW trivial (hbx 0 (by omega))) 1 _ rfl), hW⟩⟩
        case o2 =>
          intro gy D wz hDi hdep hclo hW
          exact .inl ⟨rfl, rfl, .inl ⟨gy, wz, fun _ _ => rfl, by kernel_rfl, hW⟩⟩
        case o3 =>
          intro gy D wz hDi hdep hclo hW
          exact .inl ⟨rfl, rfl, .inl ⟨gy, wz, fun _ _ => rfl, by kernel_rfl, hW⟩⟩
        case o4 =>
          intro gy D wz hDi hdep hclo hW
          exact .inl ⟨rfl, rfl, .inl ⟨gy, wz, fun _ _ => rfl, x_load rfl rfl Try.underlying3 rfl ((HP.oldRange hW trivial (hbx 0 (by omega))) 0 _ rfl), hW⟩⟩
        case o5 =>
          intro gy D wz hDi hdep hclo hW
          exact .inl ⟨rfl, rfl, .inl ⟨gy, wz, fun _ _ => rfl, by kernel_rfl, hW⟩⟩
        case o6 =>
          intro gy D wz hDi hdep hclo hW
          exact .inl ⟨rfl, rfl, .inl ⟨gy, wz, fun _ _ => rfl, x_load rfl rfl Try.underlying3 rfl ((HP.oldRange hW trivial (hbx 0 (by omega))) 1 _ rfl), hW⟩⟩
        case o7 =>
          intro gy D wz hDi hdep hclo hW
          exact .inl ⟨rfl, rfl, .inl ⟨gy, wz, fun _ _ => rfl, by kernel_rfl, hW⟩⟩
        case o8 =>
          intro gy D wz hDi hdep hclo hW
          exact .inl ⟨rfl, rfl, .inl ⟨gy, wz, fun _ _ => rfl, x_load rfl rfl Try.underlying3 rfl ((HP.oldRange hW trivial (hbx 0 (by omega))) 2 _ rfl), hW⟩⟩
        case o9 =>
          intro gy D wz hDi hdep hclo hW
          have d10 : D 10 = false := by
            cases h : D 10 with
            | false => rfl
            | true => exact absurd (hclo 10 _ rfl h ⟨9, .data⟩ (by simp) rfl) (by rw [hDi]; exact Bool.false_ne_true)
          have d11 : D 11 = false := by
            cases h : D 11 with
            | false => rfl
            | true => exact absurd (hclo 11 _ rfl h ⟨9, .chain⟩ (by simp) rfl) (by rw [hDi]; exact Bool.false_ne_true)
          have hW2 := hW
          try simp only [hDi, cond_true, cond_false, List.append_nil, List.nil_append, List.cons_append] at hW2
          refine .inl ⟨rfl, rfl, .inr (.inr ⟨15, #[.slice pv ((owl o sp N).length) cv, vI m, vI (mo : Int), vI (nn : Int)], by kernel_rfl, (delay_any pv cv (owl o sp N) m mo nn i0 _ (hI.below (HP.below hW2)) (by omega) hi0 hm0 (by omega) (by omega)).mono ?_⟩)⟩
          rintro e w3 ⟨d, rfl, hbo⟩
          have hA := HP.call hW2 hbo
          refine ⟨⟨d, ()⟩, fun j hj => ?_, rfl, ?_⟩
          · match j, hj with
            | 0, hj => rfl
            | 1, hj => rfl
            | 2, hj => rfl
            | 3, hj => rfl
            | 4, hj => rfl
            | 5, hj => rfl
            | 6, hj => rfl
            | 7, hj => rfl
            | 8, hj => rfl
            | 9, hj => rw [hDi] at hj; cases hj
            | 10, hj => exact absurd hj (by rw [d10]; exact Bool.false_ne_true)
            | 11, hj => exact absurd hj (by rw [d11]; exact Bool.false_ne_true)
            | 12, hj => rfl
            | j + 13, _ => rfl
          · show HP Tr wt w3 []
            try simp only [cond_true, cond_false, List.append_nil, List.nil_append, List.cons_append]
            exact hA
        case o10 =>
          intro gy D wz hDi hdep hclo hW
          exact .inl ⟨rfl, rfl, .inl ⟨gy, wz, fun _ _ => rfl, x_add (Z := (mo : Int) + ((gy.1 : Nat) : Int)) rfl rfl rfl (by omega) (by omega) (by omega), hW⟩⟩
        case o11 =>
          intro gy D wz hDi hdep hclo hW
          exact .inl ⟨rfl, rfl, .inl ⟨gy, wz, fun _ _ => rfl, by kernel_rfl, hW⟩⟩
        case o12 =>
          intro gy D wz hDi hdep hclo hW
          exact .inl ⟨rfl, rfl, .inl ⟨gy, wz, fun _ _ => rfl, by kernel_rfl, hW⟩⟩
      rintro ⟨d, gu⟩ D w20 hall hH21
      clear hall
      refine WQ.sub (l' := [(0, .slice p N cap), (1, .agg #[vI m, vI (mo : Int), vI (nn : Int)]), (3, vP b3 0), (4, vI ((mo : Int) + ((d : Nat) : Int))), (5, vI 0), (6, vI 0), (7, .slice pv ((owl o sp N).length) cv), (12, .bool false), (20, .bool false)]) ⟨rfl, rfl, rfl, rfl, rfl, rfl, rfl, rfl, rfl, trivial⟩ ?_
      refine WQ.then ?_
      refine hK19 _ _ _ ?_
      refine WC.ret ?_
      refine WQ.ret2 4 5 rfl rfl rfl ?_
      exact ⟨_, 0, rfl, fun _ => ⟨hr9, by omega⟩, (HP.below (HP.call hHt (HP.below hH21)))⟩
  ·
    rw [hr9] at qa
    refine WL.call (f := 12) (args := #[.slice p N cap, .agg #[vI m, vI t, vI n]]) 10 rfl (Nat.le_of_ble_eq_true rfl) rfl rfl (by kernel_rfl) ?_
    refine (qa _ (hS.below (HP.below hH4))).mono ?_
    rintro e w22 ⟨rfl, hb23⟩
    refine ⟨_, rfl, ?_⟩
    have hH24 : HP Tr w _ [.cel b3 #[vI m, vI t, vI n] 30] := HP.call hH4 hb23
    refine WL.pure (v := vI 1) 6 rfl (Nat.le_of_ble_eq_true rfl) rfl rfl (by kernel_rfl) ?_
    refine WL.nil ?_
    refine WQ.then ?_
    refine hK5 _ _ _ ?_
    refine WC.seq fun K25 hK25 => ?_
    refine WC.seq fun K26 hK26 => ?_
    refine WC.region ?_
    refine WL.pure (v := vI 1) 11 rfl (Nat.le_of_ble_eq_true rfl) rfl rfl (by kernel_rfl) ?_
    refine WL.pure (v := .bool true) 12 rfl (Nat.le_of_ble_eq_true rfl) rfl rfl (x_neq rfl rfl rfl (by decide)) ?_
    refine WL.nil ?_
    refine WQ.then ?_
    refine hK26 _ _ _ ?_
    refine WC.yes rfl ?_
    refine WC.seq fun K27 hK27 => ?_
    refine WC.region ?_
    refine WL.pure (v := vI 1) 13 rfl (Nat.le_of_ble_eq_true rfl) rfl rfl (by kernel_rfl) ?_
    refine WL.pure (v := vI 0) 4 rfl (Nat.le_of_ble_eq_true rfl) rfl rfl (by kernel_rfl) ?_
    refine WL.pure (v := vI 1) 5 rfl (Nat.le_of_ble_eq_true rfl) rfl rfl (by kernel_rfl) ?_
    refine WL.nil ?_
    refine WQ.then ?_
    refine hK27 _ _ _ ?_
    refine WC.sub (l' := [(0, .slice p N cap), (1, .agg #[vI m, vI t, vI n]), (3, vP b3 0), (4, vI 0), (5, vI 1), (6, vI 1), (12, .bool true)]) ⟨rfl, rfl, rfl, rfl, rfl, rfl, rfl, trivial⟩ ?_
    refine WC.ret ?_
    refine WQ.thenRet ?_
    refine WQ.ret2 4 5 rfl rfl rfl ?_
    exact ⟨0, 1, rfl, fun q => absurd q (by decide), (HP.below hH24)⟩
end Bs
end Go.Proofs.Yteckbfebemofmaa
