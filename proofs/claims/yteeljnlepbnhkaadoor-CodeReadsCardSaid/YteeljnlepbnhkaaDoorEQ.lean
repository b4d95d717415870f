/- Names of operations: the reference, and Op of the program. -/
import Derived.Test.YteeljnlepbnhkaaDoorEM
set_option linter.unusedVariables false
set_option linter.unusedSimpArgs false
namespace Go.Proofs.YteeljnlepbnhkaaDoor
open Go.RowKit Fw
namespace Ec
def nmA : Array Value := #[.string ⟨#[110, 111, 112]⟩, .string ⟨#[112, 117, 115, 104]⟩, .string ⟨#[108, 111, 97, 100]⟩, .string ⟨#[115, 116, 111, 114, 101]⟩, .string ⟨#[100, 114, 111, 112]⟩, .string ⟨#[100, 117, 112]⟩, .string ⟨#[97, 100, 100]⟩, .string ⟨#[115, 117, 98]⟩, .string ⟨#[109, 117, 108]⟩, .string ⟨#[100, 105, 118]⟩, .string ⟨#[108, 101, 115, 115]⟩, .string ⟨#[115, 97, 109, 101]⟩, .string ⟨#[110, 117, 108, 108]⟩, .string ⟨#[105, 115, 110, 117, 108, 108]⟩, .string ⟨#[110, 101, 119]⟩, .string ⟨#[110, 101, 119, 105, 110, 116, 115]⟩, .string ⟨#[110, 101, 119, 114, 101, 102, 115]⟩, .string ⟨#[103, 101, 116]⟩, .string ⟨#[112, 117, 116]⟩, .string ⟨#[101, 108, 101, 109]⟩, .string ⟨#[115, 101, 116, 101, 108, 101, 109]⟩, .string ⟨#[108, 101, 110]⟩, .string ⟨#[115, 116, 97, 116, 105, 99]⟩, .string ⟨#[115, 101, 116, 115, 116, 97, 116, 105, 99]⟩, .string ⟨#[99, 97, 115, 116]⟩, .string ⟨#[99, 97, 108, 108]⟩, .string ⟨#[115, 101, 110, 100]⟩, .string ⟨#[101, 109, 105, 116]⟩, .string ⟨#[116, 104, 114, 111, 119]⟩, .string ⟨#[105, 102]⟩, .string ⟨#[108, 111, 111, 112]⟩, .string ⟨#[108, 111, 99, 107]⟩, .string ⟨#[115, 99, 111, 112, 101]⟩, .string ⟨#[116, 114, 121]⟩, .string ⟨#[101, 108, 115, 101]⟩, .string ⟨#[101, 110, 100]⟩]
set_option maxRecDepth 100000 in
theorem nmA_at : ∀ k, k < 36 → nmA[k]? = some (.string (sp k).n)
  | 0, _ => by rfl
  | 1, _ => by rfl
  | 2, _ => by rfl
  | 3, _ => by rfl
  | 4, _ => by rfl
  | 5, _ => by rfl
  | 6, _ => by rfl
  | 7, _ => by rfl
  | 8, _ => by rfl
  | 9, _ => by rfl
  | 10, _ => by rfl
  | 11, _ => by rfl
  | 12, _ => by rfl
  | 13, _ => by rfl
  | 14, _ => by rfl
  | 15, _ => by rfl
  | 16, _ => by rfl
  | 17, _ => by rfl
  | 18, _ => by rfl
  | 19, _ => by rfl
  | 20, _ => by rfl
  | 21, _ => by rfl
  | 22, _ => by rfl
  | 23, _ => by rfl
  | 24, _ => by rfl
  | 25, _ => by rfl
  | 26, _ => by rfl
  | 27, _ => by rfl
  | 28, _ => by rfl
  | 29, _ => by rfl
  | 30, _ => by rfl
  | 31, _ => by rfl
  | 32, _ => by rfl
  | 33, _ => by rfl
  | 34, _ => by rfl
  | 35, _ => by rfl
  | n + 36, h => absurd h (by omega)
set_option maxRecDepth 100000 in
theorem tbl_ext : ∀ k, k < 36 → tbl.extract (k * 4) (k * 4 + 4) = #[.string (sp k).n, .int .i64 (sp k).a, .int .i64 (sp k).b, .int .i64 (sp k).c]
  | 0, _ => by kernel_rfl
  | 1, _ => by kernel_rfl
  | 2, _ => by kernel_rfl
  | 3, _ => by kernel_rfl
  | 4, _ => by kernel_rfl
  | 5, _ => by kernel_rfl
  | 6, _ => by kernel_rfl
  | 7, _ => by kernel_rfl
  | 8, _ => by kernel_rfl
  | 9, _ => by kernel_rfl
  | 10, _ => by kernel_rfl
  | 11, _ => by kernel_rfl
  | 12, _ => by kernel_rfl
  | 13, _ => by kernel_rfl
  | 14, _ => by kernel_rfl
  | 15, _ => by kernel_rfl
  | 16, _ => by kernel_rfl
  | 17, _ => by kernel_rfl
  | 18, _ => by kernel_rfl
  | 19, _ => by kernel_rfl
  | 20, _ => by kernel_rfl
  | 21, _ => by kernel_rfl
  | 22, _ => by kernel_rfl
  | 23, _ => by kernel_rfl
  | 24, _ => by kernel_rfl
  | 25, _ => by kernel_rfl
  | 26, _ => by kernel_rfl
  | 27, _ => by kernel_rfl
  | 28, _ => by kernel_rfl
  | 29, _ => by kernel_rfl
  | 30, _ => by kernel_rfl
  | 31, _ => by kernel_rfl
  | 32, _ => by kernel_rfl
  | 33, _ => by kernel_rfl
  | 34, _ => by kernel_rfl
  | 35, _ => by kernel_rfl
  | n + 36, h => absurd h (by omega)
/-- the operation of a name -/
def opI (s : ByteArray) : Option Nat := (List.range 36).find? fun i => decide ((sp i).n = s)
def opV (s : ByteArray) : Int := match opI s with | some k => (k : Int) | none => 0
def opFe (s : ByteArray) : Int := match opI s with | some _ => 0 | none => 3
theorem opI_some {s : ByteArray} {k : Nat} (hk : k < 36) (h : (sp k).n = s) (hl : ∀ i, i < k → (sp i).n ≠ s) : opV s = (k : Int) ∧ opFe s = 0 := by
  have : opI s = some k := by
    unfold opI
    rw [List.find?_range_eq_some]
    exact ⟨by simpa using h, by simpa using hk, fun j hj => by simpa using hl j hj⟩
  unfold opV opFe; rw [this]; exact ⟨rfl, rfl⟩
theorem opI_none {s : ByteArray} (hl : ∀ i, i < 36 → (sp i).n ≠ s) : opV s = 0 ∧ opFe s = 3 := by
  have : opI s = none := by
    unfold opI
    rw [List.find?_range_eq_none]
    exact fun i hi => by simpa using hl i hi
  unfold opV opFe; rw [this]; exact ⟨rfl, rfl⟩
set_option maxRecDepth 100000 in
theorem opI_back : ∀ k, k < 36 → opI (sp k).n = some k
  | 0, _ => by kernel_rfl
  | 1, _ => by kernel_rfl
  | 2, _ => by kernel_rfl
  | 3, _ => by kernel_rfl
  | 4, _ => by kernel_rfl
  | 5, _ => by kernel_rfl
  | 6, _ => by kernel_rfl
  | 7, _ => by kernel_rfl
  | 8, _ => by kernel_rfl
  | 9, _ => by kernel_rfl
  | 10, _ => by kernel_rfl
  | 11, _ => by kernel_rfl
  | 12, _ => by kernel_rfl
  | 13, _ => by kernel_rfl
  | 14, _ => by kernel_rfl
  | 15, _ => by kernel_rfl
  | 16, _ => by kernel_rfl
  | 17, _ => by kernel_rfl
  | 18, _ => by kernel_rfl
  | 19, _ => by kernel_rfl
  | 20, _ => by kernel_rfl
  | 21, _ => by kernel_rfl
  | 22, _ => by kernel_rfl
  | 23, _ => by kernel_rfl
  | 24, _ => by kernel_rfl
  | 25, _ => by kernel_rfl
  | 26, _ => by kernel_rfl
  | 27, _ => by kernel_rfl
  | 28, _ => by kernel_rfl
  | 29, _ => by kernel_rfl
  | 30, _ => by kernel_rfl
  | 31, _ => by kernel_rfl
  | 32, _ => by kernel_rfl
  | 33, _ => by kernel_rfl
  | 34, _ => by kernel_rfl
  | 35, _ => by kernel_rfl
  | n + 36, h => absurd h (by omega)
theorem opN_zero {op : Int} (h0 : 0 ≤ op) (h1 : op ≤ 35) (h : ¬ (op = 12 ∨ op = 16 ∨ op = 30 ∨ op = 1 ∨ op = 2 ∨ op = 3 ∨ op = 14 ∨ op = 15 ∨ op = 17 ∨ op = 18 ∨ op = 22 ∨ op = 23 ∨ op = 24 ∨ op = 25 ∨ op = 26 ∨ op = 27 ∨ op = 28 ∨ op = 31 ∨ op = 32)) : opN op = 0 := by
  have hc : op = 0 ∨ op = 4 ∨ op = 5 ∨ op = 6 ∨ op = 7 ∨ op = 8 ∨ op = 9 ∨ op = 10 ∨ op = 11 ∨ op = 13 ∨ op = 19 ∨ op = 20 ∨ op = 21 ∨ op = 29 ∨ op = 33 ∨ op = 34 ∨ op = 35 := by omega
  rcases hc with rfl | rfl | rfl | rfl | rfl | rfl | rfl | rfl | rfl | rfl | rfl | rfl | rfl | rfl | rfl | rfl | rfl <;> rfl
theorem ope_out {op : Int} (h : op < 0 ∨ 35 < op) : opN op = 0 ∧ opE op = 3 := by
  unfold opN opE; rw [if_neg (by omega), if_neg (by omega)]; exact ⟨rfl, rfl⟩
theorem ope_in {op : Int} (h : 0 ≤ op) (h1 : op ≤ 35) : opE op = 0 := by unfold opE; rw [if_pos (by omega)]
theorem nms_in {k : Nat} (h : k < 36) : nmS (k : Int) = (sp k).n := by unfold nmS; rw [if_pos (by omega)]; simp
theorem nms_out {op : Int} (h : op < 0 ∨ 35 < op) : nmS op = ⟨#[]⟩ := by unfold nmS; rw [if_neg (by omega)]
theorem sz9 : (Tryd.prog.info? 9).map (·.size) = some 1 := by kernel_rfl
theorem sz48 : (Tryd.prog.info? 48).map (·.size) = some 4 := by kernel_rfl
set_option maxRecDepth 20000 in
set_option maxHeartbeats 4000000 in
theorem rnames_any (w : World) :
    Calls Tryd.prog 21 #[] w fun e w' => ∃ g : Nat, e = .returned (.slice (some ⟨g, 0, none⟩) 36 36) ∧ HP Tr w w' [.cel g nmA 9] := by
  refine calls_of Tryd.func21 rfl (m := 2) rfl [] (Fr_enter [] 2 (Nat.le_of_ble_eq_true rfl)) ?_
  have hH1 : HP Tr w w [] := HP.refl w
  refine WC.seq fun K2 hK2 => ?_
  refine WC.region ?_
  refine WL.pure (v := .slice none 0 0) 0 rfl (Nat.le_of_ble_eq_true rfl) rfl rfl (by kernel_rfl) ?_
  refine WL.nil ?_
  refine WQ.then ?_
  refine hK2 _ _ _ ?_
  refine WC.seq fun K3 hK3 => ?_
  refine WC.region ?_
  refine WL.alloc (c := #[.string (⟨#[110, 111, 112]⟩), .string (⟨#[112, 117, 115, 104]⟩), .string (⟨#[108, 111, 97, 100]⟩), .string (⟨#[115, 116, 111, 114, 101]⟩), .string (⟨#[100, 114, 111, 112]⟩), .string (⟨#[100, 117, 112]⟩), .string (⟨#[97, 100, 100]⟩), .string (⟨#[115, 117, 98]⟩), .string (⟨#[109, 117, 108]⟩), .string (⟨#[100, 105, 118]⟩), .string (⟨#[108, 101, 115, 115]⟩), .string (⟨#[115, 97, 109, 101]⟩), .string (⟨#[110, 117, 108, 108]⟩), .string (⟨#[105, 115, 110, 117, 108, 108]⟩), .string (⟨#[110, 101, 119]⟩), .string (⟨#[110, 101, 119, 105, 110, 116, 115]⟩), .string (⟨#[110, 101, 119, 114, 101, 102, 115]⟩), .string (⟨#[103, 101, 116]⟩), .string (⟨#[112, 117, 116]⟩), .string (⟨#[101, 108, 101, 109]⟩), .string (⟨#[115, 101, 116, 101, 108, 101, 109]⟩), .string (⟨#[108, 101, 110]⟩), .string (⟨#[115, 116, 97, 116, 105, 99]⟩), .string (⟨#[115, 101, 116, 115, 116, 97, 116, 105, 99]⟩), .string (⟨#[99, 97, 115, 116]⟩), .string (⟨#[99, 97, 108, 108]⟩), .string (⟨#[115, 101, 110, 100]⟩), .string (⟨#[101, 109, 105, 116]⟩), .string (⟨#[116, 104, 114, 111, 119]⟩), .string (⟨#[105, 102]⟩), .string (⟨#[108, 111, 111, 112]⟩), .string (⟨#[108, 111, 99, 107]⟩), .string (⟨#[115, 99, 111, 112, 101]⟩), .string (⟨#[116, 114, 121]⟩), .string (⟨#[101, 108, 115, 101]⟩), .string (⟨#[101, 110, 100]⟩)]) (T := 9) hH1 1 rfl (by decide) rfl rfl (fun b => vS b 36 36) (by kernel_rfl) (fun b w4 hw4 => ?_)
  have hH5 : HP Tr w w4 [.cel b #[.string (⟨#[110, 111, 112]⟩), .string (⟨#[112, 117, 115, 104]⟩), .string (⟨#[108, 111, 97, 100]⟩), .string (⟨#[115, 116, 111, 114, 101]⟩), .string (⟨#[100, 114, 111, 112]⟩), .string (⟨#[100, 117, 112]⟩), .string (⟨#[97, 100, 100]⟩), .string (⟨#[115, 117, 98]⟩), .string (⟨#[109, 117, 108]⟩), .string (⟨#[100, 105, 118]⟩), .string (⟨#[108, 101, 115, 115]⟩), .string (⟨#[115, 97, 109, 101]⟩), .string (⟨#[110, 117, 108, 108]⟩), .string (⟨#[105, 115, 110, 117, 108, 108]⟩), .string (⟨#[110, 101, 119]⟩), .string (⟨#[110, 101, 119, 105, 110, 116, 115]⟩), .string (⟨#[110, 101, 119, 114, 101, 102, 115]⟩), .string (⟨#[103, 101, 116]⟩), .string (⟨#[112, 117, 116]⟩), .string (⟨#[101, 108, 101, 109]⟩), .string (⟨#[115, 101, 116, 101, 108, 101, 109]⟩), .string (⟨#[108, 101, 110]⟩), .string (⟨#[115, 116, 97, 116, 105, 99]⟩), .string (⟨#[115, 101, 116, 115, 116, 97, 116, 105, 99]⟩), .string (⟨#[99, 97, 115, 116]⟩), .string (⟨#[99, 97, 108, 108]⟩), .string (⟨#[115, 101, 110, 100]⟩), .string (⟨#[101, 109, 105, 116]⟩), .string (⟨#[116, 104, 114, 111, 119]⟩), .string (⟨#[105, 102]⟩), .string (⟨#[108, 111, 111, 112]⟩), .string (⟨#[108, 111, 99, 107]⟩), .string (⟨#[115, 99, 111, 112, 101]⟩), .string (⟨#[116, 114, 121]⟩), .string (⟨#[101, 108, 115, 101]⟩), .string (⟨#[101, 110, 100]⟩)] 9] := hw4.2
  have nb := hw4.1
  clear hw4
  refine WL.pure (v := vS b 36 36) 0 rfl (Nat.le_of_ble_eq_true rfl) rfl rfl (by kernel_rfl) ?_
  refine WL.nil ?_
  refine WQ.then ?_
  refine hK3 _ _ _ ?_
  refine WC.ret ?_
  refine WQ.ret1 0 rfl rfl ?_
  exact ⟨b, rfl, hH5⟩
set_option maxRecDepth 20000 in
set_option maxHeartbeats 4000000 in
theorem Op_any (s : ByteArray) (w : World) :
    Calls Tryd.prog 46 #[.string s] w fun e w' => e = .returned (.tuple #[.int .i64 (opV s), .int .i64 (opFe s)]) ∧ Below w.heap.size w w' := by
  refine calls_of Tryd.func46 rfl (m := 17) rfl [(0, .string s)] (Fr_enter [.string s] 17 (Nat.le_of_ble_eq_true rfl)) ?_
  have hH1 : HP Tr w w [] := HP.refl w
  refine WC.seq fun K2 hK2 => ?_
  refine WC.region ?_
  refine WL.pure (v := vI 0) 2 rfl (Nat.le_of_ble_eq_true rfl) rfl rfl (by kernel_rfl) ?_
  refine WL.pure (v := vI 0) 3 rfl (Nat.le_of_ble_eq_true rfl) rfl rfl (by kernel_rfl) ?_
  refine WL.nil ?_
  refine WQ.then ?_
  refine hK2 _ _ _ ?_
  refine WC.seq fun K3 hK3 => ?_
  refine WC.seq fun K4 hK4 => ?_
  refine WC.region ?_
  refine WL.call (f := 36) (args := #[]) 6 rfl (Nat.le_of_ble_eq_true rfl) rfl rfl (by kernel_rfl) ?_
  refine (table_any _).mono ?_
  rintro e w5 ⟨rfl, hb6⟩
  refine ⟨_, rfl, ?_⟩
  have hH7 : HP Tr w _ [] := HP.call hH1 hb6
  refine WL.pure (v := vI 0) 7 rfl (Nat.le_of_ble_eq_true rfl) rfl rfl (by kernel_rfl) ?_
  refine WL.nil ?_
  refine WQ.then ?_
  refine hK4 _ _ _ ?_
  refine WC.block ?_
  refine WC.loop (fun kk0 ll0 ww0 => ∃ (k : Nat), ll0 = [(0, .string s), (6, .agg tbl), (7, vI (k : Int))] ∧ kk0 = 36 - k ∧ (k ≤ 36) ∧ (∀ i, i < k → (sp i).n ≠ s) ∧ HP Tr w ww0 []) (36) [(0, .string s), (6, .agg tbl), (7, vI 0)] ⟨rfl, rfl, rfl, trivial⟩ ⟨0, rfl, rfl, by omega, fun i hi => absurd hi (Nat.not_lt_zero i), hH7⟩ ?_
  rintro kk l w9 ⟨k, rfl, hkk, hk, hv, hH10⟩ K8 hK8
  refine WC.seq fun K11 hK11 => ?_
  refine WC.region ?_
  by_cases hlt : (k : Int) < 36
  ·
    refine WL.pure (v := .bool true) 8 rfl (Nat.le_of_ble_eq_true rfl) rfl rfl (x_lss rfl rfl rfl (dT (hlt))) ?_
    refine WL.nil ?_
    refine WQ.then ?_
    refine hK11 _ _ _ ?_
    refine WC.seq fun K12 hK12 => ?_
    refine WC.yes rfl ?_
    refine WC.skip ?_
    refine WQ.then ?_
    refine hK12 _ _ _ ?_
    refine WC.seq fun K13 hK13 => ?_
    refine WC.block ?_
    refine WC.seq fun K14 hK14 => ?_
    refine WC.region ?_
    refine WL.pure (v := vI (k : Int)) 9 rfl (Nat.le_of_ble_eq_true rfl) rfl rfl (by kernel_rfl) ?_
    refine WL.pure (v := .agg #[.string ((sp k).n), vI ((sp k).a), vI ((sp k).b), vI ((sp k).c)]) 10 rfl (Nat.le_of_ble_eq_true rfl) rfl rfl (x_index k rfl rfl rfl Tryd.underlying76 Tryd.underlying48 rfl sz48 rfl (by omega) (tbl_ext k (by omega))) ?_
    refine WL.alloc (c := #[.string (⟨#[]⟩), vI 0, vI 0, vI 0]) (T := 48) hH10 5 rfl (by decide) rfl rfl (fun b15 => vP b15 0) (by kernel_rfl) (fun b15 w16 hw16 => ?_)
    have hH17 : HP Tr w w16 [.cel b15 #[.string (⟨#[]⟩), vI 0, vI 0, vI 0] 48] := hw16.2
    have nb15 := hw16.1
    clear hw16
    refine WL.pure (v := vI (k : Int)) 4 rfl (Nat.le_of_ble_eq_true rfl) rfl rfl (by kernel_rfl) ?_
    refine WL.storeS (H2 := [.cel b15 #[.string ((sp k).n), vI ((sp k).a), vI ((sp k).b), vI ((sp k).c)] 48]) 0 hH17 rfl rfl rfl rfl rfl rfl sz48 rfl (Nat.le_of_ble_eq_true rfl) rfl rfl ?_
    intro w18 hH19
    refine WL.nil ?_
    refine WQ.then ?_
    refine hK14 _ _ _ ?_
    refine WC.seq fun K20 hK20 => ?_
    refine WC.region ?_
    refine WL.pure (v := vP b15 0) 11 rfl (Nat.le_of_ble_eq_true rfl) rfl rfl (by kernel_rfl) ?_
    refine WL.pure (v := .string ((sp k).n)) 12 rfl (Nat.le_of_ble_eq_true rfl) rfl rfl (x_load rfl rfl Tryd.underlying9 rfl (HP.cell hH19 0 rfl rfl)) ?_
    refine WL.pure (v := .string s) 13 rfl (Nat.le_of_ble_eq_true rfl) rfl rfl (by kernel_rfl) ?_
    by_cases heq : (sp k).n = s
    ·
      refine WL.pure (v := .bool true) 14 rfl (Nat.le_of_ble_eq_true rfl) rfl rfl (x_eqls rfl rfl rfl (dT heq)) ?_
      refine WL.nil ?_
      refine WQ.then ?_
      refine hK20 _ _ _ ?_
      refine WC.yes rfl ?_
      refine WC.seq fun K21 hK21 => ?_
      refine WC.region ?_
      refine WL.pure (v := vI (k : Int)) 15 rfl (Nat.le_of_ble_eq_true rfl) rfl rfl (by kernel_rfl) ?_
      refine WL.pure (v := vI (k : Int)) 2 rfl (Nat.le_of_ble_eq_true rfl) rfl rfl (by kernel_rfl) ?_
      refine WL.pure (v := vI 0) 3 rfl (Nat.le_of_ble_eq_true rfl) rfl rfl (by kernel_rfl) ?_
      refine WL.nil ?_
      refine WQ.then ?_
      refine hK21 _ _ _ ?_
      refine WC.sub (l' := [(0, .string s), (2, vI (k : Int)), (3, vI 0), (4, vI (k : Int)), (5, vP b15 0), (6, .agg tbl), (7, vI (k : Int)), (8, .bool true), (14, .bool true)]) ⟨rfl, rfl, rfl, rfl, rfl, rfl, rfl, rfl, rfl, trivial⟩ ?_
      refine WC.ret ?_
      refine WQ.inRet ?_
      refine WQ.thenRet ?_
      refine WQ.thenRet ?_
      refine WQ.inRet ?_
      refine WQ.thenRet ?_
      refine WQ.ret2 2 3 rfl rfl rfl ?_
      exact ⟨by rw [(opI_some (by omega) heq hv).1, (opI_some (by omega) heq hv).2], HP.below hH19⟩
    ·
      have hne := heq
      refine WL.pure (v := .bool false) 14 rfl (Nat.le_of_ble_eq_true rfl) rfl rfl (x_eqls rfl rfl rfl (dF heq)) ?_
      refine WL.nil ?_
      refine WQ.then ?_
      refine hK20 _ _ _ ?_
      refine WC.no rfl ?_
      refine WC.skip ?_
      refine WQ.inNormal ?_
      refine WQ.then ?_
      refine hK13 _ _ _ ?_
      refine WC.region ?_
      refine WL.pure (v := vI ((k + 1 : Nat) : Int)) 16 rfl (Nat.le_of_ble_eq_true rfl) rfl rfl (x_add (Z := ((k + 1 : Nat) : Int)) rfl rfl rfl (by omega) (by omega) (by omega)) ?_
      refine WL.pure (v := vI ((k + 1 : Nat) : Int)) 7 rfl (Nat.le_of_ble_eq_true rfl) rfl rfl (by kernel_rfl) ?_
      refine WL.nil ?_
      refine WQ.sub (l' := [(0, .string s), (6, .agg tbl), (7, vI ((k + 1 : Nat) : Int))]) ⟨rfl, rfl, rfl, trivial⟩ ?_
      refine WQ.then (hK8 _ _ _ (by omega) ⟨k + 1, rfl, rfl, by omega, fun i hi => (Nat.lt_succ_iff_lt_or_eq.1 hi).elim (hv i) (fun e => e ▸ hne), (HP.drop hH19 0)⟩)
  ·
    refine WL.pure (v := .bool false) 8 rfl (Nat.le_of_ble_eq_true rfl) rfl rfl (x_lss rfl rfl rfl (dF (hlt))) ?_
    refine WL.nil ?_
    refine WQ.then ?_
    refine hK11 _ _ _ ?_
    refine WC.seq fun K22 hK22 => ?_
    refine WC.no rfl ?_
    refine WC.exit ?_
    refine WQ.thenExit ?_
    refine WQ.thenExit ?_
    refine WQ.inExit ?_
    refine WQ.then ?_
    refine hK3 _ _ _ ?_
    refine WC.seq fun K23 hK23 => ?_
    refine WC.region ?_
    refine WL.pure (v := vI 0) 2 rfl (Nat.le_of_ble_eq_true rfl) rfl rfl (by kernel_rfl) ?_
    refine WL.pure (v := vI 3) 3 rfl (Nat.le_of_ble_eq_true rfl) rfl rfl (by kernel_rfl) ?_
    refine WL.nil ?_
    refine WQ.then ?_
    refine hK23 _ _ _ ?_
    refine WC.ret ?_
    refine WQ.ret2 2 3 rfl rfl rfl ?_
    exact ⟨by rw [(opI_none (fun i hi => hv i (by omega))).1, (opI_none (fun i hi => hv i (by omega))).2], HP.below hH10⟩
set_option maxRecDepth 20000 in
set_option maxHeartbeats 4000000 in
theorem rOp_any (s : ByteArray) (w : World) :
    Calls Tryd.prog 49 #[.string s] w fun e w' => e = .returned (.tuple #[.int .i64 (opV s), .int .i64 (opFe s)]) ∧ Below w.heap.size w w' := by
  refine calls_of Tryd.func49 rfl (m := 16) rfl [(0, .string s)] (Fr_enter [.string s] 16 (Nat.le_of_ble_eq_true rfl)) ?_
  have hH1 : HP Tr w w [] := HP.refl w
  refine WC.seq fun K2 hK2 => ?_
  refine WC.region ?_
  refine WL.pure (v := vI 0) 2 rfl (Nat.le_of_ble_eq_true rfl) rfl rfl (by kernel_rfl) ?_
  refine WL.pure (v := vI 0) 3 rfl (Nat.le_of_ble_eq_true rfl) rfl rfl (by kernel_rfl) ?_
  refine WL.nil ?_
  refine WQ.then ?_
  refine hK2 _ _ _ ?_
  refine WC.seq fun K3 hK3 => ?_
  refine WC.seq fun K4 hK4 => ?_
  refine WC.region ?_
  refine WL.pure (v := vI 0) 4 rfl (Nat.le_of_ble_eq_true rfl) rfl rfl (by kernel_rfl) ?_
  refine WL.nil ?_
  refine WQ.then ?_
  refine hK4 _ _ _ ?_
  refine WC.block ?_
  refine WC.loop (fun kk0 ll0 ww0 => ∃ (k : Nat), ll0 = [(0, .string s), (4, vI (k : Int))] ∧ kk0 = 36 - k ∧ (k ≤ 36) ∧ (∀ i, i < k → (sp i).n ≠ s) ∧ HP Tr w ww0 []) (36) [(0, .string s), (4, vI 0)] ⟨rfl, rfl, trivial⟩ ⟨0, rfl, rfl, by omega, fun i hi => absurd hi (Nat.not_lt_zero i), hH1⟩ ?_
  rintro kk l w6 ⟨k, rfl, hkk, hk, hv, hH7⟩ K5 hK5
  refine WC.seq fun K8 hK8 => ?_
  refine WC.seq fun K9 hK9 => ?_
  refine WC.region ?_
  refine WL.pure (v := vI (k : Int)) 5 rfl (Nat.le_of_ble_eq_true rfl) rfl rfl (by kernel_rfl) ?_
  by_cases hlt : (k : Int) ≤ 35
  ·
    refine WL.pure (v := .bool true) 6 rfl (Nat.le_of_ble_eq_true rfl) rfl rfl (x_leq rfl rfl rfl (dT (hlt))) ?_
    refine WL.nil ?_
    refine WQ.then ?_
    refine hK9 _ _ _ ?_
    refine WC.yes rfl ?_
    refine WC.skip ?_
    refine WQ.then ?_
    refine hK8 _ _ _ ?_
    refine WC.seq fun K10 hK10 => ?_
    refine WC.block ?_
    refine WC.seq fun K11 hK11 => ?_
    refine WC.region ?_
    refine WL.call (f := 21) (args := #[]) 9 rfl (Nat.le_of_ble_eq_true rfl) rfl rfl (by kernel_rfl) ?_
    refine (rnames_any _).mono ?_
    rintro e w13 ⟨g12, rfl, hb14⟩
    refine ⟨_, rfl, ?_⟩
    have hH15 : HP Tr w _ [.cel g12 nmA 9] := HP.trans hH7 hb14
    refine WL.pure (v := vI (k : Int)) 10 rfl (Nat.le_of_ble_eq_true rfl) rfl rfl (by kernel_rfl) ?_
    refine WL.pure (v := vP g12 k) 11 rfl (Nat.le_of_ble_eq_true rfl) rfl rfl (x_idx (k) (k) rfl rfl rfl Tryd.underlying60 sz9 (by omega) (by omega) (by omega)) ?_
    refine WL.pure (v := .string ((sp k).n)) 12 rfl (Nat.le_of_ble_eq_true rfl) rfl rfl (x_load rfl rfl Tryd.underlying9 rfl (HP.cell hH15 0 rfl (nmA_at k (by omega)))) ?_
    refine WL.pure (v := .string s) 13 rfl (Nat.le_of_ble_eq_true rfl) rfl rfl (by kernel_rfl) ?_
    by_cases heq : (sp k).n = s
    ·
      refine WL.pure (v := .bool true) 14 rfl (Nat.le_of_ble_eq_true rfl) rfl rfl (x_eqls rfl rfl rfl (dT heq)) ?_
      refine WL.nil ?_
      refine WQ.then ?_
      refine hK11 _ _ _ ?_
      refine WC.sub (l' := [(0, .string s), (4, vI (k : Int)), (6, .bool true), (14, .bool true)]) ⟨rfl, rfl, rfl, rfl, trivial⟩ ?_
      refine WC.yes rfl ?_
      refine WC.seq fun K16 hK16 => ?_
      refine WC.region ?_
      refine WL.pure (v := vI (k : Int)) 15 rfl (Nat.le_of_ble_eq_true rfl) rfl rfl (by kernel_rfl) ?_
      refine WL.pure (v := vI (k : Int)) 2 rfl (Nat.le_of_ble_eq_true rfl) rfl rfl (by kernel_rfl) ?_
      refine WL.pure (v := vI 0) 3 rfl (Nat.le_of_ble_eq_true rfl) rfl rfl (by kernel_rfl) ?_
      refine WL.nil ?_
      refine WQ.then ?_
      refine hK16 _ _ _ ?_
      refine WC.ret ?_
      refine WQ.inRet ?_
      refine WQ.thenRet ?_
      refine WQ.thenRet ?_
      refine WQ.inRet ?_
      refine WQ.thenRet ?_
      refine WQ.ret2 2 3 rfl rfl rfl ?_
      exact ⟨by rw [(opI_some (by omega) heq hv).1, (opI_some (by omega) heq hv).2], HP.below hH15⟩
    ·
      have hne := heq
      refine WL.pure (v := .bool false) 14 rfl (Nat.le_of_ble_eq_true rfl) rfl rfl (x_eqls rfl rfl rfl (dF heq)) ?_
      refine WL.nil ?_
      refine WQ.then ?_
      refine hK11 _ _ _ ?_
      refine WC.sub (l' := [(0, .string s), (4, vI (k : Int)), (6, .bool true), (14, .bool false)]) ⟨rfl, rfl, rfl, rfl, trivial⟩ ?_
      refine WC.no rfl ?_
      refine WC.skip ?_
      refine WQ.inNormal ?_
      refine WQ.then ?_
      refine hK10 _ _ _ ?_
      refine WC.region ?_
      refine WL.pure (v := vI (k : Int)) 7 rfl (Nat.le_of_ble_eq_true rfl) rfl rfl (by kernel_rfl) ?_
      refine WL.pure (v := vI ((k + 1 : Nat) : Int)) 8 rfl (Nat.le_of_ble_eq_true rfl) rfl rfl (x_add (Z := ((k + 1 : Nat) : Int)) rfl rfl rfl (by omega) (by omega) (by omega)) ?_
      refine WL.pure (v := vI ((k + 1 : Nat) : Int)) 4 rfl (Nat.le_of_ble_eq_true rfl) rfl rfl (by kernel_rfl) ?_
      refine WL.nil ?_
      refine WQ.sub (l' := [(0, .string s), (4, vI ((k + 1 : Nat) : Int))]) ⟨rfl, rfl, trivial⟩ ?_
      refine WQ.then (hK5 _ _ _ (by omega) ⟨k + 1, rfl, rfl, by omega, fun i hi => (Nat.lt_succ_iff_lt_or_eq.1 hi).elim (hv i) (fun e => e ▸ hne), (HP.drop hH15 0)⟩)
  ·
    refine WL.pure (v := .bool false) 6 rfl (Nat.le_of_ble_eq_true rfl) rfl rfl (x_leq rfl rfl rfl (dF (hlt))) ?_
    refine WL.nil ?_
    refine WQ.then ?_
    refine hK9 _ _ _ ?_
    refine WC.no rfl ?_
    refine WC.exit ?_
    refine WQ.thenExit ?_
    refine WQ.thenExit ?_
    refine WQ.inExit ?_
    refine WQ.then ?_
    refine hK3 _ _ _ ?_
    refine WC.seq fun K17 hK17 => ?_
    refine WC.region ?_
    refine WL.pure (v := vI 0) 2 rfl (Nat.le_of_ble_eq_true rfl) rfl rfl (by kernel_rfl) ?_
    refine WL.pure (v := vI 3) 3 rfl (Nat.le_of_ble_eq_true rfl) rfl rfl (by kernel_rfl) ?_
    refine WL.nil ?_
    refine WQ.then ?_
    refine hK17 _ _ _ ?_
    refine WC.ret ?_
    refine WQ.ret2 2 3 rfl rfl rfl ?_
    exact ⟨by rw [(opI_none (fun i hi => hv i (by omega))).1, (opI_none (fun i hi => hv i (by omega))).2], HP.below hH7⟩
set_option maxRecDepth 20000 in
set_option maxHeartbeats 4000000 in
theorem rOperands_any (op : Int) (w : World) :
    Calls Tryd.prog 22 #[vI op] w fun e w' => e = .returned (.tuple #[.int .i64 (opN op), .int .i64 (opE op)]) ∧ Below w.heap.size w w' := by
  refine calls_of Tryd.func22 rfl (m := 32) rfl [(0, vI op)] (Fr_enter [vI op] 32 (Nat.le_of_ble_eq_true rfl)) ?_
  have hH1 : HP Tr w w [] := HP.refl w
  refine WC.seq fun K2 hK2 => ?_
  refine WC.region ?_
  refine WL.pure (v := vI 0) 2 rfl (Nat.le_of_ble_eq_true rfl) rfl rfl (by kernel_rfl) ?_
  refine WL.pure (v := vI 0) 3 rfl (Nat.le_of_ble_eq_true rfl) rfl rfl (by kernel_rfl) ?_
  refine WL.nil ?_
  refine WQ.then ?_
  refine hK2 _ _ _ ?_
  refine WC.seq fun K3 hK3 => ?_
  refine WC.seq fun K4 hK4 => ?_
  refine WC.region ?_
  refine WL.pure (v := vI op) 4 rfl (Nat.le_of_ble_eq_true rfl) rfl rfl (by kernel_rfl) ?_
  refine WL.nil ?_
  refine WQ.then ?_
  refine hK4 _ _ _ ?_
  refine WC.block ?_
  refine WC.seq fun K5 hK5 => ?_
  refine WC.seq fun K6 hK6 => ?_
  refine WC.region ?_
  by_cases d6 : op = 12
  ·
    refine WL.pure (v := .bool true) 6 rfl (Nat.le_of_ble_eq_true rfl) rfl rfl (x_eql rfl rfl rfl (dT (d6))) ?_
    refine WL.pure (v := .bool true) 5 rfl (Nat.le_of_ble_eq_true rfl) rfl rfl (by kernel_rfl) ?_
    refine WL.nil ?_
    refine WQ.then ?_
    refine hK6 _ _ _ ?_
    refine WC.yes rfl ?_
    refine WC.skip ?_
    refine WQ.then ?_
    refine hK5 _ _ _ ?_
    refine WC.yes rfl ?_
    refine WC.seq fun K7 hK7 => ?_
    refine WC.region ?_
    refine WL.pure (v := vI 2) 2 rfl (Nat.le_of_ble_eq_true rfl) rfl rfl (by kernel_rfl) ?_
    refine WL.pure (v := vI 0) 3 rfl (Nat.le_of_ble_eq_true rfl) rfl rfl (by kernel_rfl) ?_
    refine WL.nil ?_
    refine WQ.then ?_
    refine hK7 _ _ _ ?_
    refine WC.ret ?_
    refine WQ.inRet ?_
    refine WQ.thenRet ?_
    refine WQ.ret2 2 3 rfl rfl rfl ?_
    exact ⟨by subst d6; kernel_rfl, HP.below hH1⟩
  ·
    refine WL.pure (v := .bool false) 6 rfl (Nat.le_of_ble_eq_true rfl) rfl rfl (x_eql rfl rfl rfl (dF (d6))) ?_
    refine WL.pure (v := .bool false) 5 rfl (Nat.le_of_ble_eq_true rfl) rfl rfl (by kernel_rfl) ?_
    refine WL.nil ?_
    refine WQ.then ?_
    refine hK6 _ _ _ ?_
    refine WC.no rfl ?_
    refine WC.seq fun K8 hK8 => ?_
    refine WC.region ?_
    by_cases d7 : op = 16
    ·
      refine WL.pure (v := .bool true) 7 rfl (Nat.le_of_ble_eq_true rfl) rfl rfl (x_eql rfl rfl rfl (dT (d7))) ?_
      refine WL.pure (v := .bool true) 5 rfl (Nat.le_of_ble_eq_true rfl) rfl rfl (by kernel_rfl) ?_
      refine WL.nil ?_
      refine WQ.then ?_
      refine hK8 _ _ _ ?_
      refine WC.yes rfl ?_
      refine WC.skip ?_
      refine WQ.then ?_
      refine hK5 _ _ _ ?_
      refine WC.yes rfl ?_
      refine WC.seq fun K9 hK9 => ?_
      refine WC.region ?_
      refine WL.pure (v := vI 2) 2 rfl (Nat.le_of_ble_eq_true rfl) rfl rfl (by kernel_rfl) ?_
      refine WL.pure (v := vI 0) 3 rfl (Nat.le_of_ble_eq_true rfl) rfl rfl (by kernel_rfl) ?_
      refine WL.nil ?_
      refine WQ.then ?_
      refine hK9 _ _ _ ?_
      refine WC.ret ?_
      refine WQ.inRet ?_
      refine WQ.thenRet ?_
      refine WQ.ret2 2 3 rfl rfl rfl ?_
      exact ⟨by subst d7; kernel_rfl, HP.below hH1⟩
    ·
      refine WL.pure (v := .bool false) 7 rfl (Nat.le_of_ble_eq_true rfl) rfl rfl (x_eql rfl rfl rfl (dF (d7))) ?_
      refine WL.pure (v := .bool false) 5 rfl (Nat.le_of_ble_eq_true rfl) rfl rfl (by kernel_rfl) ?_
      refine WL.nil ?_
      refine WQ.then ?_
      refine hK8 _ _ _ ?_
      refine WC.no rfl ?_
      refine WC.region ?_
      by_cases d8 : op = 30
      ·
        refine WL.pure (v := .bool true) 8 rfl (Nat.le_of_ble_eq_true rfl) rfl rfl (x_eql rfl rfl rfl (dT (d8))) ?_
        refine WL.pure (v := .bool true) 5 rfl (Nat.le_of_ble_eq_true rfl) rfl rfl (by kernel_rfl) ?_
        refine WL.nil ?_
        refine WQ.then ?_
        refine hK5 _ _ _ ?_
        refine WC.yes rfl ?_
        refine WC.seq fun K10 hK10 => ?_
        refine WC.region ?_
        refine WL.pure (v := vI 2) 2 rfl (Nat.le_of_ble_eq_true rfl) rfl rfl (by kernel_rfl) ?_
        refine WL.pure (v := vI 0) 3 rfl (Nat.le_of_ble_eq_true rfl) rfl rfl (by kernel_rfl) ?_
        refine WL.nil ?_
        refine WQ.then ?_
        refine hK10 _ _ _ ?_
        refine WC.sub (l' := [(0, vI op), (2, vI 2), (3, vI 0), (4, vI op), (5, .bool true)]) ⟨rfl, rfl, rfl, rfl, rfl, trivial⟩ ?_
        refine WC.ret ?_
        refine WQ.inRet ?_
        refine WQ.thenRet ?_
        refine WQ.ret2 2 3 rfl rfl rfl ?_
        exact ⟨by subst d8; kernel_rfl, HP.below hH1⟩
      ·
        refine WL.pure (v := .bool false) 8 rfl (Nat.le_of_ble_eq_true rfl) rfl rfl (x_eql rfl rfl rfl (dF (d8))) ?_
        refine WL.pure (v := .bool false) 5 rfl (Nat.le_of_ble_eq_true rfl) rfl rfl (by kernel_rfl) ?_
        refine WL.nil ?_
        refine WQ.then ?_
        refine hK5 _ _ _ ?_
        refine WC.no rfl ?_
        refine WC.seq fun K11 hK11 => ?_
        refine WC.seq fun K12 hK12 => ?_
        refine WC.region ?_
        by_cases d10 : op = 1
        ·
          refine WL.pure (v := .bool true) 10 rfl (Nat.le_of_ble_eq_true rfl) rfl rfl (x_eql rfl rfl rfl (dT (d10))) ?_
          refine WL.pure (v := .bool true) 9 rfl (Nat.le_of_ble_eq_true rfl) rfl rfl (by kernel_rfl) ?_
          refine WL.nil ?_
          refine WQ.then ?_
          refine hK12 _ _ _ ?_
          refine WC.sub (l' := [(0, vI op), (2, vI 0), (3, vI 0), (4, vI op), (5, .bool false), (9, .bool true)]) ⟨rfl, rfl, rfl, rfl, rfl, rfl, trivial⟩ ?_
          refine WC.yes rfl ?_
          refine WC.skip ?_
          refine WQ.then ?_
          refine hK11 _ _ _ ?_
          refine WC.yes rfl ?_
          refine WC.seq fun K13 hK13 => ?_
          refine WC.region ?_
          refine WL.pure (v := vI 1) 2 rfl (Nat.le_of_ble_eq_true rfl) rfl rfl (by kernel_rfl) ?_
          refine WL.pure (v := vI 0) 3 rfl (Nat.le_of_ble_eq_true rfl) rfl rfl (by kernel_rfl) ?_
          refine WL.nil ?_
          refine WQ.then ?_
          refine hK13 _ _ _ ?_
          refine WC.ret ?_
          refine WQ.inRet ?_
          refine WQ.thenRet ?_
          refine WQ.ret2 2 3 rfl rfl rfl ?_
          exact ⟨by subst d10; kernel_rfl, HP.below hH1⟩
        ·
          refine WL.pure (v := .bool false) 10 rfl (Nat.le_of_ble_eq_true rfl) rfl rfl (x_eql rfl rfl rfl (dF (d10))) ?_
          refine WL.pure (v := .bool false) 9 rfl (Nat.le_of_ble_eq_true rfl) rfl rfl (by kernel_rfl) ?_
          refine WL.nil ?_
          refine WQ.then ?_
          refine hK12 _ _ _ ?_
          refine WC.sub (l' := [(0, vI op), (2, vI 0), (3, vI 0), (4, vI op), (5, .bool false), (9, .bool false)]) ⟨rfl, rfl, rfl, rfl, rfl, rfl, trivial⟩ ?_
          refine WC.no rfl ?_
          refine WC.seq fun K14 hK14 => ?_
          refine WC.region ?_
          by_cases d11 : op = 2
          ·
            refine WL.pure (v := .bool true) 11 rfl (Nat.le_of_ble_eq_true rfl) rfl rfl (x_eql rfl rfl rfl (dT (d11))) ?_
            refine WL.pure (v := .bool true) 9 rfl (Nat.le_of_ble_eq_true rfl) rfl rfl (by kernel_rfl) ?_
            refine WL.nil ?_
            refine WQ.then ?_
            refine hK14 _ _ _ ?_
            refine WC.yes rfl ?_
            refine WC.skip ?_
            refine WQ.then ?_
            refine hK11 _ _ _ ?_
            refine WC.yes rfl ?_
            refine WC.seq fun K15 hK15 => ?_
            refine WC.region ?_
            refine WL.pure (v := vI 1) 2 rfl (Nat.le_of_ble_eq_true rfl) rfl rfl (by kernel_rfl) ?_
            refine WL.pure (v := vI 0) 3 rfl (Nat.le_of_ble_eq_true rfl) rfl rfl (by kernel_rfl) ?_
            refine WL.nil ?_
            refine WQ.then ?_
            refine hK15 _ _ _ ?_
            refine WC.ret ?_
            refine WQ.inRet ?_
            refine WQ.thenRet ?_
            refine WQ.ret2 2 3 rfl rfl rfl ?_
            exact ⟨by subst d11; kernel_rfl, HP.below hH1⟩
          ·
            refine WL.pure (v := .bool false) 11 rfl (Nat.le_of_ble_eq_true rfl) rfl rfl (x_eql rfl rfl rfl (dF (d11))) ?_
            refine WL.pure (v := .bool false) 9 rfl (Nat.le_of_ble_eq_true rfl) rfl rfl (by kernel_rfl) ?_
            refine WL.nil ?_
            refine WQ.then ?_
            refine hK14 _ _ _ ?_
            refine WC.no rfl ?_
            refine WC.seq fun K16 hK16 => ?_
            refine WC.region ?_
            by_cases d12 : op = 3
            ·
              refine WL.pure (v := .bool true) 12 rfl (Nat.le_of_ble_eq_true rfl) rfl rfl (x_eql rfl rfl rfl (dT (d12))) ?_
              refine WL.pure (v := .bool true) 9 rfl (Nat.le_of_ble_eq_true rfl) rfl rfl (by kernel_rfl) ?_
              refine WL.nil ?_
              refine WQ.then ?_
              refine hK16 _ _ _ ?_
              refine WC.yes rfl ?_
              refine WC.skip ?_
              refine WQ.then ?_
              refine hK11 _ _ _ ?_
              refine WC.yes rfl ?_
              refine WC.seq fun K17 hK17 => ?_
              refine WC.region ?_
              refine WL.pure (v := vI 1) 2 rfl (Nat.le_of_ble_eq_true rfl) rfl rfl (by kernel_rfl) ?_
              refine WL.pure (v := vI 0) 3 rfl (Nat.le_of_ble_eq_true rfl) rfl rfl (by kernel_rfl) ?_
              refine WL.nil ?_
              refine WQ.then ?_
              refine hK17 _ _ _ ?_
              refine WC.sub (l' := [(0, vI op), (2, vI 1), (3, vI 0), (4, vI op), (5, .bool false), (9, .bool true)]) ⟨rfl, rfl, rfl, rfl, rfl, rfl, trivial⟩ ?_
              refine WC.ret ?_
              refine WQ.inRet ?_
              refine WQ.thenRet ?_
              refine WQ.ret2 2 3 rfl rfl rfl ?_
              exact ⟨by subst d12; kernel_rfl, HP.below hH1⟩
            ·
              refine WL.pure (v := .bool false) 12 rfl (Nat.le_of_ble_eq_true rfl) rfl rfl (x_eql rfl rfl rfl (dF (d12))) ?_
              refine WL.pure (v := .bool false) 9 rfl (Nat.le_of_ble_eq_true rfl) rfl rfl (by kernel_rfl) ?_
              refine WL.nil ?_
              refine WQ.then ?_
              refine hK16 _ _ _ ?_
              refine WC.no rfl ?_
              refine WC.seq fun K18 hK18 => ?_
              refine WC.region ?_
              by_cases d13 : op = 14
              ·
                refine WL.pure (v := .bool true) 13 rfl (Nat.le_of_ble_eq_true rfl) rfl rfl (x_eql rfl rfl rfl (dT (d13))) ?_
                refine WL.pure (v := .bool true) 9 rfl (Nat.le_of_ble_eq_true rfl) rfl rfl (by kernel_rfl) ?_
                refine WL.nil ?_
                refine WQ.then ?_
                refine hK18 _ _ _ ?_
                refine WC.sub (l' := [(0, vI op), (2, vI 0), (3, vI 0), (4, vI op), (5, .bool false), (9, .bool true)]) ⟨rfl, rfl, rfl, rfl, rfl, rfl, trivial⟩ ?_
                refine WC.yes rfl ?_
                refine WC.skip ?_
                refine WQ.then ?_
                refine hK11 _ _ _ ?_
                refine WC.yes rfl ?_
                refine WC.seq fun K19 hK19 => ?_
                refine WC.region ?_
                refine WL.pure (v := vI 1) 2 rfl (Nat.le_of_ble_eq_true rfl) rfl rfl (by kernel_rfl) ?_
                refine WL.pure (v := vI 0) 3 rfl (Nat.le_of_ble_eq_true rfl) rfl rfl (by kernel_rfl) ?_
                refine WL.nil ?_
                refine WQ.then ?_
                refine hK19 _ _ _ ?_
                refine WC.ret ?_
                refine WQ.inRet ?_
                refine WQ.thenRet ?_
                refine WQ.ret2 2 3 rfl rfl rfl ?_
                exact ⟨by subst d13; kernel_rfl, HP.below hH1⟩
              ·
                refine WL.pure (v := .bool false) 13 rfl (Nat.le_of_ble_eq_true rfl) rfl rfl (x_eql rfl rfl rfl (dF (d13))) ?_
                refine WL.pure (v := .bool false) 9 rfl (Nat.le_of_ble_eq_true rfl) rfl rfl (by kernel_rfl) ?_
                refine WL.nil ?_
                refine WQ.then ?_
                refine hK18 _ _ _ ?_
                refine WC.sub (l' := [(0, vI op), (2, vI 0), (3, vI 0), (4, vI op), (5, .bool false), (9, .bool false)]) ⟨rfl, rfl, rfl, rfl, rfl, rfl, trivial⟩ ?_
                refine WC.no rfl ?_
                refine WC.seq fun K20 hK20 => ?_
                refine WC.region ?_
                by_cases d14 : op = 15
                ·
                  refine WL.pure (v := .bool true) 14 rfl (Nat.le_of_ble_eq_true rfl) rfl rfl (x_eql rfl rfl rfl (dT (d14))) ?_
                  refine WL.pure (v := .bool true) 9 rfl (Nat.le_of_ble_eq_true rfl) rfl rfl (by kernel_rfl) ?_
                  refine WL.nil ?_
                  refine WQ.then ?_
                  refine hK20 _ _ _ ?_
                  refine WC.yes rfl ?_
                  refine WC.skip ?_
                  refine WQ.then ?_
                  refine hK11 _ _ _ ?_
                  refine WC.yes rfl ?_
                  refine WC.seq fun K21 hK21 => ?_
                  refine WC.region ?_
                  refine WL.pure (v := vI 1) 2 rfl (Nat.le_of_ble_eq_true rfl) rfl rfl (by kernel_rfl) ?_
                  refine WL.pure (v := vI 0) 3 rfl (Nat.le_of_ble_eq_true rfl) rfl rfl (by kernel_rfl) ?_
                  refine WL.nil ?_
                  refine WQ.then ?_
                  refine hK21 _ _ _ ?_
                  refine WC.ret ?_
                  refine WQ.inRet ?_
                  refine WQ.thenRet ?_
                  refine WQ.ret2 2 3 rfl rfl rfl ?_
                  exact ⟨by subst d14; kernel_rfl, HP.below hH1⟩
                ·
                  refine WL.pure (v := .bool false) 14 rfl (Nat.le_of_ble_eq_true rfl) rfl rfl (x_eql rfl rfl rfl (dF (d14))) ?_
                  refine WL.pure (v := .bool false) 9 rfl (Nat.le_of_ble_eq_true rfl) rfl rfl (by kernel_rfl) ?_
                  refine WL.nil ?_
                  refine WQ.then ?_
                  refine hK20 _ _ _ ?_
                  refine WC.no rfl ?_
                  refine WC.seq fun K22 hK22 => ?_
                  refine WC.region ?_
                  by_cases d15 : op = 17
                  ·
                    refine WL.pure (v := .bool true) 15 rfl (Nat.le_of_ble_eq_true rfl) rfl rfl (x_eql rfl rfl rfl (dT (d15))) ?_
                    refine WL.pure (v := .bool true) 9 rfl (Nat.le_of_ble_eq_true rfl) rfl rfl (by kernel_rfl) ?_
                    refine WL.nil ?_
                    refine WQ.then ?_
                    refine hK22 _ _ _ ?_
                    refine WC.yes rfl ?_
                    refine WC.skip ?_
                    refine WQ.then ?_
                    refine hK11 _ _ _ ?_
                    refine WC.yes rfl ?_
                    refine WC.seq fun K23 hK23 => ?_
                    refine WC.region ?_
                    refine WL.pure (v := vI 1) 2 rfl (Nat.le_of_ble_eq_true rfl) rfl rfl (by kernel_rfl) ?_
                    refine WL.pure (v := vI 0) 3 rfl (Nat.le_of_ble_eq_true rfl) rfl rfl (by kernel_rfl) ?_
                    refine WL.nil ?_
                    refine WQ.then ?_
                    refine hK23 _ _ _ ?_
                    refine WC.sub (l' := [(0, vI op), (2, vI 1), (3, vI 0), (4, vI op), (5, .bool false), (9, .bool true)]) ⟨rfl, rfl, rfl, rfl, rfl, rfl, trivial⟩ ?_
                    refine WC.ret ?_
                    refine WQ.inRet ?_
                    refine WQ.thenRet ?_
                    refine WQ.ret2 2 3 rfl rfl rfl ?_
                    exact ⟨by subst d15; kernel_rfl, HP.below hH1⟩
                  ·
                    refine WL.pure (v := .bool false) 15 rfl (Nat.le_of_ble_eq_true rfl) rfl rfl (x_eql rfl rfl rfl (dF (d15))) ?_
                    refine WL.pure (v := .bool false) 9 rfl (Nat.le_of_ble_eq_true rfl) rfl rfl (by kernel_rfl) ?_
                    refine WL.nil ?_
                    refine WQ.then ?_
                    refine hK22 _ _ _ ?_
                    refine WC.no rfl ?_
                    refine WC.seq fun K24 hK24 => ?_
                    refine WC.region ?_
                    by_cases d16 : op = 18
                    ·
                      refine WL.pure (v := .bool true) 16 rfl (Nat.le_of_ble_eq_true rfl) rfl rfl (x_eql rfl rfl rfl (dT (d16))) ?_
                      refine WL.pure (v := .bool true) 9 rfl (Nat.le_of_ble_eq_true rfl) rfl rfl (by kernel_rfl) ?_
                      refine WL.nil ?_
                      refine WQ.then ?_
                      refine hK24 _ _ _ ?_
                      refine WC.sub (l' := [(0, vI op), (2, vI 0), (3, vI 0), (4, vI op), (5, .bool false), (9, .bool true)]) ⟨rfl, rfl, rfl, rfl, rfl, rfl, trivial⟩ ?_
                      refine WC.yes rfl ?_
                      refine WC.skip ?_
                      refine WQ.then ?_
                      refine hK11 _ _ _ ?_
                      refine WC.yes rfl ?_
                      refine WC.seq fun K25 hK25 => ?_
                      refine WC.region ?_
                      refine WL.pure (v := vI 1) 2 rfl (Nat.le_of_ble_eq_true rfl) rfl rfl (by kernel_rfl) ?_
                      refine WL.pure (v := vI 0) 3 rfl (Nat.le_of_ble_eq_true rfl) rfl rfl (by kernel_rfl) ?_
                      refine WL.nil ?_
                      refine WQ.then ?_
                      refine hK25 _ _ _ ?_
                      refine WC.ret ?_
                      refine WQ.inRet ?_
                      refine WQ.thenRet ?_
                      refine WQ.ret2 2 3 rfl rfl rfl ?_
                      exact ⟨by subst d16; kernel_rfl, HP.below hH1⟩
                    ·
                      refine WL.pure (v := .bool false) 16 rfl (Nat.le_of_ble_eq_true rfl) rfl rfl (x_eql rfl rfl rfl (dF (d16))) ?_
                      refine WL.pure (v := .bool false) 9 rfl (Nat.le_of_ble_eq_true rfl) rfl rfl (by kernel_rfl) ?_
                      refine WL.nil ?_
                      refine WQ.then ?_
                      refine hK24 _ _ _ ?_
                      refine WC.sub (l' := [(0, vI op), (2, vI 0), (3, vI 0), (4, vI op), (5, .bool false), (9, .bool false)]) ⟨rfl, rfl, rfl, rfl, rfl, rfl, trivial⟩ ?_
                      refine WC.no rfl ?_
                      refine WC.seq fun K26 hK26 => ?_
                      refine WC.region ?_
                      by_cases d17 : op = 22
                      ·
                        refine WL.pure (v := .bool true) 17 rfl (Nat.le_of_ble_eq_true rfl) rfl rfl (x_eql rfl rfl rfl (dT (d17))) ?_
                        refine WL.pure (v := .bool true) 9 rfl (Nat.le_of_ble_eq_true rfl) rfl rfl (by kernel_rfl) ?_
                        refine WL.nil ?_
                        refine WQ.then ?_
                        refine hK26 _ _ _ ?_
                        refine WC.yes rfl ?_
                        refine WC.skip ?_
                        refine WQ.then ?_
                        refine hK11 _ _ _ ?_
                        refine WC.yes rfl ?_
                        refine WC.seq fun K27 hK27 => ?_
                        refine WC.region ?_
                        refine WL.pure (v := vI 1) 2 rfl (Nat.le_of_ble_eq_true rfl) rfl rfl (by kernel_rfl) ?_
                        refine WL.pure (v := vI 0) 3 rfl (Nat.le_of_ble_eq_true rfl) rfl rfl (by kernel_rfl) ?_
                        refine WL.nil ?_
                        refine WQ.then ?_
                        refine hK27 _ _ _ ?_
                        refine WC.ret ?_
                        refine WQ.inRet ?_
                        refine WQ.thenRet ?_
                        refine WQ.ret2 2 3 rfl rfl rfl ?_
                        exact ⟨by subst d17; kernel_rfl, HP.below hH1⟩
                      ·
                        refine WL.pure (v := .bool false) 17 rfl (Nat.le_of_ble_eq_true rfl) rfl rfl (x_eql rfl rfl rfl (dF (d17))) ?_
                        refine WL.pure (v := .bool false) 9 rfl (Nat.le_of_ble_eq_true rfl) rfl rfl (by kernel_rfl) ?_
                        refine WL.nil ?_
                        refine WQ.then ?_
                        refine hK26 _ _ _ ?_
                        refine WC.no rfl ?_
                        refine WC.seq fun K28 hK28 => ?_
                        refine WC.region ?_
                        by_cases d18 : op = 23
                        ·
                          refine WL.pure (v := .bool true) 18 rfl (Nat.le_of_ble_eq_true rfl) rfl rfl (x_eql rfl rfl rfl (dT (d18))) ?_
                          refine WL.pure (v := .bool true) 9 rfl (Nat.le_of_ble_eq_true rfl) rfl rfl (by kernel_rfl) ?_
                          refine WL.nil ?_
                          refine WQ.then ?_
                          refine hK28 _ _ _ ?_
                          refine WC.yes rfl ?_
                          refine WC.skip ?_
                          refine WQ.then ?_
                          refine hK11 _ _ _ ?_
                          refine WC.yes rfl ?_
                          refine WC.seq fun K29 hK29 => ?_
                          refine WC.region ?_
                          refine WL.pure (v := vI 1) 2 rfl (Nat.le_of_ble_eq_true rfl) rfl rfl (by kernel_rfl) ?_
                          refine WL.pure (v := vI 0) 3 rfl (Nat.le_of_ble_eq_true rfl) rfl rfl (by kernel_rfl) ?_
                          refine WL.nil ?_
                          refine WQ.then ?_
                          refine hK29 _ _ _ ?_
                          refine WC.sub (l' := [(0, vI op), (2, vI 1), (3, vI 0), (4, vI op), (5, .bool false), (9, .bool true)]) ⟨rfl, rfl, rfl, rfl, rfl, rfl, trivial⟩ ?_
                          refine WC.ret ?_
                          refine WQ.inRet ?_
                          refine WQ.thenRet ?_
                          refine WQ.ret2 2 3 rfl rfl rfl ?_
                          exact ⟨by subst d18; kernel_rfl, HP.below hH1⟩
                        ·
                          refine WL.pure (v := .bool false) 18 rfl (Nat.le_of_ble_eq_true rfl) rfl rfl (x_eql rfl rfl rfl (dF (d18))) ?_
                          refine WL.pure (v := .bool false) 9 rfl (Nat.le_of_ble_eq_true rfl) rfl rfl (by kernel_rfl) ?_
                          refine WL.nil ?_
                          refine WQ.then ?_
                          refine hK28 _ _ _ ?_
                          refine WC.no rfl ?_
                          refine WC.seq fun K30 hK30 => ?_
                          refine WC.region ?_
                          by_cases d19 : op = 24
                          ·
                            refine WL.pure (v := .bool true) 19 rfl (Nat.le_of_ble_eq_true rfl) rfl rfl (x_eql rfl rfl rfl (dT (d19))) ?_
                            refine WL.pure (v := .bool true) 9 rfl (Nat.le_of_ble_eq_true rfl) rfl rfl (by kernel_rfl) ?_
                            refine WL.nil ?_
                            refine WQ.then ?_
                            refine hK30 _ _ _ ?_
                            refine WC.sub (l' := [(0, vI op), (2, vI 0), (3, vI 0), (4, vI op), (5, .bool false), (9, .bool true)]) ⟨rfl, rfl, rfl, rfl, rfl, rfl, trivial⟩ ?_
                            refine WC.yes rfl ?_
                            refine WC.skip ?_
                            refine WQ.then ?_
                            refine hK11 _ _ _ ?_
                            refine WC.yes rfl ?_
                            refine WC.seq fun K31 hK31 => ?_
                            refine WC.region ?_
                            refine WL.pure (v := vI 1) 2 rfl (Nat.le_of_ble_eq_true rfl) rfl rfl (by kernel_rfl) ?_
                            refine WL.pure (v := vI 0) 3 rfl (Nat.le_of_ble_eq_true rfl) rfl rfl (by kernel_rfl) ?_
                            refine WL.nil ?_
                            refine WQ.then ?_
                            refine hK31 _ _ _ ?_
                            refine WC.ret ?_
                            refine WQ.inRet ?_
                            refine WQ.thenRet ?_
                            refine WQ.ret2 2 3 rfl rfl rfl ?_
                            exact ⟨by subst d19; kernel_rfl, HP.below hH1⟩
                          ·
                            refine WL.pure (v := .bool false) 19 rfl (Nat.le_of_ble_eq_true rfl) rfl rfl (x_eql rfl rfl rfl (dF (d19))) ?_
                            refine WL.pure (v := .bool false) 9 rfl (Nat.le_of_ble_eq_true rfl) rfl rfl (by kernel_rfl) ?_
                            refine WL.nil ?_
                            refine WQ.then ?_
                            refine hK30 _ _ _ ?_
                            refine WC.sub (l' := [(0, vI op), (2, vI 0), (3, vI 0), (4, vI op), (5, .bool false), (9, .bool false)]) ⟨rfl, rfl, rfl, rfl, rfl, rfl, trivial⟩ ?_
                            refine WC.no rfl ?_
                            refine WC.seq fun K32 hK32 => ?_
                            refine WC.region ?_
                            by_cases d20 : op = 25
                            ·
                              refine WL.pure (v := .bool true) 20 rfl (Nat.le_of_ble_eq_true rfl) rfl rfl (x_eql rfl rfl rfl (dT (d20))) ?_
                              refine WL.pure (v := .bool true) 9 rfl (Nat.le_of_ble_eq_true rfl) rfl rfl (by kernel_rfl) ?_
                              refine WL.nil ?_
                              refine WQ.then ?_
                              refine hK32 _ _ _ ?_
                              refine WC.yes rfl ?_
                              refine WC.skip ?_
                              refine WQ.then ?_
                              refine hK11 _ _ _ ?_
                              refine WC.yes rfl ?_
                              refine WC.seq fun K33 hK33 => ?_
                              refine WC.region ?_
                              refine WL.pure (v := vI 1) 2 rfl (Nat.le_of_ble_eq_true rfl) rfl rfl (by kernel_rfl) ?_
                              refine WL.pure (v := vI 0) 3 rfl (Nat.le_of_ble_eq_true rfl) rfl rfl (by kernel_rfl) ?_
                              refine WL.nil ?_
                              refine WQ.then ?_
                              refine hK33 _ _ _ ?_
                              refine WC.ret ?_
                              refine WQ.inRet ?_
                              refine WQ.thenRet ?_
                              refine WQ.ret2 2 3 rfl rfl rfl ?_
                              exact ⟨by subst d20; kernel_rfl, HP.below hH1⟩
                            ·
                              refine WL.pure (v := .bool false) 20 rfl (Nat.le_of_ble_eq_true rfl) rfl rfl (x_eql rfl rfl rfl (dF (d20))) ?_
                              refine WL.pure (v := .bool false) 9 rfl (Nat.le_of_ble_eq_true rfl) rfl rfl (by kernel_rfl) ?_
                              refine WL.nil ?_
                              refine WQ.then ?_
                              refine hK32 _ _ _ ?_
                              refine WC.no rfl ?_
                              refine WC.seq fun K34 hK34 => ?_
                              refine WC.region ?_
                              by_cases d21 : op = 26
                              ·
                                refine WL.pure (v := .bool true) 21 rfl (Nat.le_of_ble_eq_true rfl) rfl rfl (x_eql rfl rfl rfl (dT (d21))) ?_
                                refine WL.pure (v := .bool true) 9 rfl (Nat.le_of_ble_eq_true rfl) rfl rfl (by kernel_rfl) ?_
                                refine WL.nil ?_
                                refine WQ.then ?_
                                refine hK34 _ _ _ ?_
                                refine WC.yes rfl ?_
                                refine WC.skip ?_
                                refine WQ.then ?_
                                refine hK11 _ _ _ ?_
                                refine WC.yes rfl ?_
                                refine WC.seq fun K35 hK35 => ?_
                                refine WC.region ?_
                                refine WL.pure (v := vI 1) 2 rfl (Nat.le_of_ble_eq_true rfl) rfl rfl (by kernel_rfl) ?_
                                refine WL.pure (v := vI 0) 3 rfl (Nat.le_of_ble_eq_true rfl) rfl rfl (by kernel_rfl) ?_
                                refine WL.nil ?_
                                refine WQ.then ?_
                                refine hK35 _ _ _ ?_
                                refine WC.sub (l' := [(0, vI op), (2, vI 1), (3, vI 0), (4, vI op), (5, .bool false), (9, .bool true)]) ⟨rfl, rfl, rfl, rfl, rfl, rfl, trivial⟩ ?_
                                refine WC.ret ?_
                                refine WQ.inRet ?_
                                refine WQ.thenRet ?_
                                refine WQ.ret2 2 3 rfl rfl rfl ?_
                                exact ⟨by subst d21; kernel_rfl, HP.below hH1⟩
                              ·
                                refine WL.pure (v := .bool false) 21 rfl (Nat.le_of_ble_eq_true rfl) rfl rfl (x_eql rfl rfl rfl (dF (d21))) ?_
                                refine WL.pure (v := .bool false) 9 rfl (Nat.le_of_ble_eq_true rfl) rfl rfl (by kernel_rfl) ?_
                                refine WL.nil ?_
                                refine WQ.then ?_
                                refine hK34 _ _ _ ?_
                                refine WC.no rfl ?_
                                refine WC.seq fun K36 hK36 => ?_
                                refine WC.region ?_
                                by_cases d22 : op = 27
                                ·
                                  refine WL.pure (v := .bool true) 22 rfl (Nat.le_of_ble_eq_true rfl) rfl rfl (x_eql rfl rfl rfl (dT (d22))) ?_
                                  refine WL.pure (v := .bool true) 9 rfl (Nat.le_of_ble_eq_true rfl) rfl rfl (by kernel_rfl) ?_
                                  refine WL.nil ?_
                                  refine WQ.then ?_
                                  refine hK36 _ _ _ ?_
                                  refine WC.sub (l' := [(0, vI op), (2, vI 0), (3, vI 0), (4, vI op), (5, .bool false), (9, .bool true)]) ⟨rfl, rfl, rfl, rfl, rfl, rfl, trivial⟩ ?_
                                  refine WC.yes rfl ?_
                                  refine WC.skip ?_
                                  refine WQ.then ?_
                                  refine hK11 _ _ _ ?_
                                  refine WC.yes rfl ?_
                                  refine WC.seq fun K37 hK37 => ?_
                                  refine WC.region ?_
                                  refine WL.pure (v := vI 1) 2 rfl (Nat.le_of_ble_eq_true rfl) rfl rfl (by kernel_rfl) ?_
                                  refine WL.pure (v := vI 0) 3 rfl (Nat.le_of_ble_eq_true rfl) rfl rfl (by kernel_rfl) ?_
                                  refine WL.nil ?_
                                  refine WQ.then ?_
                                  refine hK37 _ _ _ ?_
                                  refine WC.ret ?_
                                  refine WQ.inRet ?_
                                  refine WQ.thenRet ?_
                                  refine WQ.ret2 2 3 rfl rfl rfl ?_
                                  exact ⟨by subst d22; kernel_rfl, HP.below hH1⟩
                                ·
                                  refine WL.pure (v := .bool false) 22 rfl (Nat.le_of_ble_eq_true rfl) rfl rfl (x_eql rfl rfl rfl (dF (d22))) ?_
                                  refine WL.pure (v := .bool false) 9 rfl (Nat.le_of_ble_eq_true rfl) rfl rfl (by kernel_rfl) ?_
                                  refine WL.nil ?_
                                  refine WQ.then ?_
                                  refine hK36 _ _ _ ?_
                                  refine WC.sub (l' := [(0, vI op), (2, vI 0), (3, vI 0), (4, vI op), (5, .bool false), (9, .bool false)]) ⟨rfl, rfl, rfl, rfl, rfl, rfl, trivial⟩ ?_
                                  refine WC.no rfl ?_
                                  refine WC.seq fun K38 hK38 => ?_
                                  refine WC.region ?_
                                  by_cases d23 : op = 28
                                  ·
                                    refine WL.pure (v := .bool true) 23 rfl (Nat.le_of_ble_eq_true rfl) rfl rfl (x_eql rfl rfl rfl (dT (d23))) ?_
                                    refine WL.pure (v := .bool true) 9 rfl (Nat.le_of_ble_eq_true rfl) rfl rfl (by kernel_rfl) ?_
                                    refine WL.nil ?_
                                    refine WQ.then ?_
                                    refine hK38 _ _ _ ?_
                                    refine WC.yes rfl ?_
                                    refine WC.skip ?_
                                    refine WQ.then ?_
                                    refine hK11 _ _ _ ?_
                                    refine WC.yes rfl ?_
                                    refine WC.seq fun K39 hK39 => ?_
                                    refine WC.region ?_
                                    refine WL.pure (v := vI 1) 2 rfl (Nat.le_of_ble_eq_true rfl) rfl rfl (by kernel_rfl) ?_
                                    refine WL.pure (v := vI 0) 3 rfl (Nat.le_of_ble_eq_true rfl) rfl rfl (by kernel_rfl) ?_
                                    refine WL.nil ?_
                                    refine WQ.then ?_
                                    refine hK39 _ _ _ ?_
                                    refine WC.ret ?_
                                    refine WQ.inRet ?_
                                    refine WQ.thenRet ?_
                                    refine WQ.ret2 2 3 rfl rfl rfl ?_
                                    exact ⟨by subst d23; kernel_rfl, HP.below hH1⟩
                                  ·
                                    refine WL.pure (v := .bool false) 23 rfl (Nat.le_of_ble_eq_true rfl) rfl rfl (x_eql rfl rfl rfl (dF (d23))) ?_
                                    refine WL.pure (v := .bool false) 9 rfl (Nat.le_of_ble_eq_true rfl) rfl rfl (by kernel_rfl) ?_
                                    refine WL.nil ?_
                                    refine WQ.then ?_
                                    refine hK38 _ _ _ ?_
                                    refine WC.no rfl ?_
                                    refine WC.seq fun K40 hK40 => ?_
                                    refine WC.region ?_
                                    by_cases d24 : op = 31
                                    ·
                                      refine WL.pure (v := .bool true) 24 rfl (Nat.le_of_ble_eq_true rfl) rfl rfl (x_eql rfl rfl rfl (dT (d24))) ?_
                                      refine WL.pure (v := .bool true) 9 rfl (Nat.le_of_ble_eq_true rfl) rfl rfl (by kernel_rfl) ?_
                                      refine WL.nil ?_
                                      refine WQ.then ?_
                                      refine hK40 _ _ _ ?_
                                      refine WC.yes rfl ?_
                                      refine WC.skip ?_
                                      refine WQ.then ?_
                                      refine hK11 _ _ _ ?_
                                      refine WC.yes rfl ?_
                                      refine WC.seq fun K41 hK41 => ?_
                                      refine WC.region ?_
                                      refine WL.pure (v := vI 1) 2 rfl (Nat.le_of_ble_eq_true rfl) rfl rfl (by kernel_rfl) ?_
                                      refine WL.pure (v := vI 0) 3 rfl (Nat.le_of_ble_eq_true rfl) rfl rfl (by kernel_rfl) ?_
                                      refine WL.nil ?_
                                      refine WQ.then ?_
                                      refine hK41 _ _ _ ?_
                                      refine WC.sub (l' := [(0, vI op), (2, vI 1), (3, vI 0), (4, vI op), (5, .bool false), (9, .bool true)]) ⟨rfl, rfl, rfl, rfl, rfl, rfl, trivial⟩ ?_
                                      refine WC.ret ?_
                                      refine WQ.inRet ?_
                                      refine WQ.thenRet ?_
                                      refine WQ.ret2 2 3 rfl rfl rfl ?_
                                      exact ⟨by subst d24; kernel_rfl, HP.below hH1⟩
                                    ·
                                      refine WL.pure (v := .bool false) 24 rfl (Nat.le_of_ble_eq_true rfl) rfl rfl (x_eql rfl rfl rfl (dF (d24))) ?_
                                      refine WL.pure (v := .bool false) 9 rfl (Nat.le_of_ble_eq_true rfl) rfl rfl (by kernel_rfl) ?_
                                      refine WL.nil ?_
                                      refine WQ.then ?_
                                      refine hK40 _ _ _ ?_
                                      refine WC.no rfl ?_
                                      refine WC.region ?_
                                      by_cases d25 : op = 32
                                      ·
                                        refine WL.pure (v := .bool true) 25 rfl (Nat.le_of_ble_eq_true rfl) rfl rfl (x_eql rfl rfl rfl (dT (d25))) ?_
                                        refine WL.pure (v := .bool true) 9 rfl (Nat.le_of_ble_eq_true rfl) rfl rfl (by kernel_rfl) ?_
                                        refine WL.nil ?_
                                        refine WQ.then ?_
                                        refine hK11 _ _ _ ?_
                                        refine WC.sub (l' := [(0, vI op), (2, vI 0), (3, vI 0), (4, vI op), (5, .bool false), (9, .bool true)]) ⟨rfl, rfl, rfl, rfl, rfl, rfl, trivial⟩ ?_
                                        refine WC.yes rfl ?_
                                        refine WC.seq fun K42 hK42 => ?_
                                        refine WC.region ?_
                                        refine WL.pure (v := vI 1) 2 rfl (Nat.le_of_ble_eq_true rfl) rfl rfl (by kernel_rfl) ?_
                                        refine WL.pure (v := vI 0) 3 rfl (Nat.le_of_ble_eq_true rfl) rfl rfl (by kernel_rfl) ?_
                                        refine WL.nil ?_
                                        refine WQ.then ?_
                                        refine hK42 _ _ _ ?_
                                        refine WC.ret ?_
                                        refine WQ.inRet ?_
                                        refine WQ.thenRet ?_
                                        refine WQ.ret2 2 3 rfl rfl rfl ?_
                                        exact ⟨by subst d25; kernel_rfl, HP.below hH1⟩
                                      ·
                                        refine WL.pure (v := .bool false) 25 rfl (Nat.le_of_ble_eq_true rfl) rfl rfl (x_eql rfl rfl rfl (dF (d25))) ?_
                                        refine WL.pure (v := .bool false) 9 rfl (Nat.le_of_ble_eq_true rfl) rfl rfl (by kernel_rfl) ?_
                                        refine WL.nil ?_
                                        refine WQ.then ?_
                                        refine hK11 _ _ _ ?_
                                        refine WC.sub (l' := [(0, vI op), (2, vI 0), (3, vI 0), (4, vI op), (5, .bool false), (9, .bool false)]) ⟨rfl, rfl, rfl, rfl, rfl, rfl, trivial⟩ ?_
                                        refine WC.no rfl ?_
                                        refine WC.skip ?_
                                        refine WQ.inNormal ?_
                                        refine WQ.then ?_
                                        refine hK3 _ _ _ ?_
                                        refine WC.seq fun K43 hK43 => ?_
                                        refine WC.seq fun K44 hK44 => ?_
                                        refine WC.region ?_
                                        refine WL.pure (v := vI op) 26 rfl (Nat.le_of_ble_eq_true rfl) rfl rfl (by kernel_rfl) ?_
                                        by_cases h0 : op < 0
                                        ·
                                          refine WL.pure (v := .bool true) 27 rfl (Nat.le_of_ble_eq_true rfl) rfl rfl (x_lss rfl rfl rfl (dT (h0))) ?_
                                          refine WL.pure (v := .bool true) 28 rfl (Nat.le_of_ble_eq_true rfl) rfl rfl (by kernel_rfl) ?_
                                          refine WL.pass 29 rfl (Nat.le_of_ble_eq_true rfl) rfl ?_
                                          refine WL.pass 30 rfl (Nat.le_of_ble_eq_true rfl) rfl ?_
                                          refine WL.pure (v := .bool true) 31 rfl (Nat.le_of_ble_eq_true rfl) rfl rfl (by kernel_rfl) ?_
                                          refine WL.nil ?_
                                          refine WQ.then ?_
                                          refine hK44 _ _ _ ?_
                                          refine WC.yes rfl ?_
                                          refine WC.seq fun K45 hK45 => ?_
                                          refine WC.region ?_
                                          refine WL.pure (v := vI 0) 2 rfl (Nat.le_of_ble_eq_true rfl) rfl rfl (by kernel_rfl) ?_
                                          refine WL.pure (v := vI 3) 3 rfl (Nat.le_of_ble_eq_true rfl) rfl rfl (by kernel_rfl) ?_
                                          refine WL.nil ?_
                                          refine WQ.then ?_
                                          refine hK45 _ _ _ ?_
                                          refine WC.sub (l' := [(0, vI op), (2, vI 0), (3, vI 3), (4, vI op), (5, .bool false), (9, .bool false), (31, .bool true)]) ⟨rfl, rfl, rfl, rfl, rfl, rfl, rfl, trivial⟩ ?_
                                          refine WC.ret ?_
                                          refine WQ.thenRet ?_
                                          refine WQ.ret2 2 3 rfl rfl rfl ?_
                                          exact ⟨by rw [(ope_out (by omega)).1, (ope_out (by omega)).2], HP.below hH1⟩
                                        ·
                                          refine WL.pure (v := .bool false) 27 rfl (Nat.le_of_ble_eq_true rfl) rfl rfl (x_lss rfl rfl rfl (dF (h0))) ?_
                                          refine WL.pure (v := .bool false) 28 rfl (Nat.le_of_ble_eq_true rfl) rfl rfl (by kernel_rfl) ?_
                                          refine WL.pure (v := vI op) 29 rfl (Nat.le_of_ble_eq_true rfl) rfl rfl (by kernel_rfl) ?_
                                          by_cases h1 : (35 : Int) < op
                                          ·
                                            refine WL.pure (v := .bool true) 30 rfl (Nat.le_of_ble_eq_true rfl) rfl rfl (x_gtr rfl rfl rfl (dT (h1))) ?_
                                            refine WL.pure (v := .bool true) 31 rfl (Nat.le_of_ble_eq_true rfl) rfl rfl (by kernel_rfl) ?_
                                            refine WL.nil ?_
                                            refine WQ.then ?_
                                            refine hK44 _ _ _ ?_
                                            refine WC.yes rfl ?_
                                            refine WC.seq fun K46 hK46 => ?_
                                            refine WC.region ?_
                                            refine WL.pure (v := vI 0) 2 rfl (Nat.le_of_ble_eq_true rfl) rfl rfl (by kernel_rfl) ?_
                                            refine WL.pure (v := vI 3) 3 rfl (Nat.le_of_ble_eq_true rfl) rfl rfl (by kernel_rfl) ?_
                                            refine WL.nil ?_
                                            refine WQ.then ?_
                                            refine hK46 _ _ _ ?_
                                            refine WC.sub (l' := [(0, vI op), (2, vI 0), (3, vI 3), (4, vI op), (5, .bool false), (9, .bool false), (31, .bool true)]) ⟨rfl, rfl, rfl, rfl, rfl, rfl, rfl, trivial⟩ ?_
                                            refine WC.ret ?_
                                            refine WQ.thenRet ?_
                                            refine WQ.ret2 2 3 rfl rfl rfl ?_
                                            exact ⟨by rw [(ope_out (by omega)).1, (ope_out (by omega)).2], HP.below hH1⟩
                                          ·
                                            refine WL.pure (v := .bool false) 30 rfl (Nat.le_of_ble_eq_true rfl) rfl rfl (x_gtr rfl rfl rfl (dF (h1))) ?_
                                            refine WL.pure (v := .bool false) 31 rfl (Nat.le_of_ble_eq_true rfl) rfl rfl (by kernel_rfl) ?_
                                            refine WL.nil ?_
                                            refine WQ.then ?_
                                            refine hK44 _ _ _ ?_
                                            refine WC.no rfl ?_
                                            refine WC.skip ?_
                                            refine WQ.then ?_
                                            refine hK43 _ _ _ ?_
                                            refine WC.seq fun K47 hK47 => ?_
                                            refine WC.region ?_
                                            refine WL.pure (v := vI 0) 2 rfl (Nat.le_of_ble_eq_true rfl) rfl rfl (by kernel_rfl) ?_
                                            refine WL.pure (v := vI 0) 3 rfl (Nat.le_of_ble_eq_true rfl) rfl rfl (by kernel_rfl) ?_
                                            refine WL.nil ?_
                                            refine WQ.then ?_
                                            refine hK47 _ _ _ ?_
                                            refine WC.sub (l' := [(0, vI op), (2, vI 0), (3, vI 0), (4, vI op), (5, .bool false), (9, .bool false), (31, .bool false)]) ⟨rfl, rfl, rfl, rfl, rfl, rfl, rfl, trivial⟩ ?_
                                            refine WC.ret ?_
                                            refine WQ.ret2 2 3 rfl rfl rfl ?_
                                            exact ⟨by rw [opN_zero (by omega) (by omega) (by omega), ope_in (by omega) (by omega)], HP.below hH1⟩
end Ec
end Go.Proofs.YteeljnlepbnhkaaDoor
