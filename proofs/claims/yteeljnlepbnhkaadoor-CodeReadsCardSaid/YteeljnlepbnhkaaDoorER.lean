/- The reference's parts and bracket. -/
import Derived.Test.YteeljnlepbnhkaaDoorEP
import Derived.Test.YteeljnlepbnhkaaDoorEM
set_option linter.unusedVariables false
set_option linter.unusedSimpArgs false
namespace Go.Proofs.YteeljnlepbnhkaaDoor
open Go.RowKit Fw
namespace Ec
/-- what parts does at an index -/
def ParC (p : Option Addr) (n cap : Nat) (c A B : Nat → Int) (at' : Nat) : Prop := ∀ w, InC w p n c A B → Calls Tryd.prog 52 #[.slice p n cap, vI (at' : Int)] w fun e w' =>
  ∃ (nx : Nat) (d : Int), e = .returned (.tuple #[.int .i64 (nx : Int), .int .i64 d]) ∧ PR c n at' nx d ∧ Below w.heap.size w w'
/-- what bracket does at an opening -/
def BraC (p : Option Addr) (n cap : Nat) (c A B : Nat → Int) (k : Nat) : Prop := ∀ w, InC w p n c A B → Calls Tryd.prog 44 #[.slice p n cap, vI (k : Int)] w fun e w' =>
  ∃ (a : Int) (en : Nat) (d : Int), e = .returned (.tuple #[.int .i64 a, .int .i64 (en : Int), .int .i64 d]) ∧ BR c n k a en d ∧ Below w.heap.size w w'
theorem PR_bad {c : Nat → Int} {n k nx : Nat} {d : Int} (h : PR c n k nx d) (hd : d < 0) : Fail c n k := by
  rcases h with ⟨_, _, h⟩ | ⟨h, _⟩
  · exact h
  · omega
theorem PR_ok {c : Nat → Int} {n k nx : Nat} {d : Int} (h : PR c n k nx d) (hd : ¬ d < 0) : ∃ d2 : Nat, d = (d2 : Int) ∧ d2 + k ≤ nx ∧ nx ≤ n ∧ (nx < n → c nx = 34 ∨ c nx = 35) ∧ ParS c k nx d2 := by
  rcases h with ⟨h, _, _⟩ | ⟨h, h1, h2, h3, h4⟩
  · omega
  · exact ⟨d.toNat, by omega, by omega, h2, h3, h4⟩
theorem BR_bad {c : Nat → Int} {n k e : Nat} {a d : Int} (h : BR c n k a e d) (hd : d < 0) : Fail c n k := by
  rcases h with ⟨_, _, _, h⟩ | ⟨h, _⟩
  · exact h
  · omega
theorem BR_ok {c : Nat → Int} {n k e : Nat} {a d : Int} (h : BR c n k a e d) (hd : ¬ d < 0) : ∃ d2 : Nat, d = (d2 : Int) ∧ d2 + k < e ∧ e < n ∧ BraS c k a e d2 := by
  rcases h with ⟨_, _, h, _⟩ | ⟨h, h1, h2, h3⟩
  · omega
  · exact ⟨d.toNat, by omega, by omega, h2, h3⟩
theorem nend {c : Nat → Int} {k n nx d : Nat} (h : ParS c k nx d) (e : nx = n) : ParS c k n d := e ▸ h
set_option maxRecDepth 20000 in
set_option maxHeartbeats 4000000 in
theorem bra_any (p : Option Addr) (n cap : Nat) (c A B : Nat → Int) (k : Nat) (hn : n ≤ 400) (hk : k < n) (hO : opn (c k) = true) (hp : ∀ at', k < at' → at' ≤ n → ParC p n cap c A B at') (w : World) (hIn : InC w p n c A B) :
    Calls Tryd.prog 44 #[.slice p n cap, vI (k : Int)] w fun e w' => ∃ (a : Int) (en : Nat) (d : Int), e = .returned (.tuple #[.int .i64 a, .int .i64 (en : Int), .int .i64 d]) ∧ BR c n k a en d ∧ Below w.heap.size w w' := by
  refine calls_of Tryd.func44 rfl (m := 84) rfl [(0, .slice p n cap), (1, vI (k : Int))] (Fr_enter [.slice p n cap, vI (k : Int)] 84 (Nat.le_of_ble_eq_true rfl)) ?_
  have hH1 : HP Tr w w [] := HP.refl w
  refine WC.seq fun K2 hK2 => ?_
  refine WC.region ?_
  refine WL.pure (v := vI 0) 4 rfl (Nat.le_of_ble_eq_true rfl) rfl rfl (by kernel_rfl) ?_
  refine WL.pure (v := vI 0) 5 rfl (Nat.le_of_ble_eq_true rfl) rfl rfl (by kernel_rfl) ?_
  refine WL.pure (v := vI 0) 6 rfl (Nat.le_of_ble_eq_true rfl) rfl rfl (by kernel_rfl) ?_
  refine WL.nil ?_
  refine WQ.then ?_
  refine hK2 _ _ _ ?_
  refine WC.seq fun K3 hK3 => ?_
  refine WC.region ?_
  refine WL.pure (v := vI (-1)) 7 rfl (Nat.le_of_ble_eq_true rfl) rfl rfl (by kernel_rfl) ?_
  refine WL.nil ?_
  refine WQ.then ?_
  refine hK3 _ _ _ ?_
  refine WC.seq fun K4 hK4 => ?_
  refine WC.region ?_
  refine WL.pure (v := .slice p n cap) 13 rfl (Nat.le_of_ble_eq_true rfl) rfl rfl (by kernel_rfl) ?_
  refine WL.pure (v := vI (k : Int)) 14 rfl (Nat.le_of_ble_eq_true rfl) rfl rfl (by kernel_rfl) ?_
  refine WL.pure (v := vI ((k + 1 : Nat) : Int)) 15 rfl (Nat.le_of_ble_eq_true rfl) rfl rfl (x_add (Z := ((k + 1 : Nat) : Int)) rfl rfl rfl (by omega) (by omega) (by omega)) ?_
  refine WL.call (f := 52) (args := #[.slice p n cap, vI ((k + 1 : Nat) : Int)]) 16 rfl (Nat.le_of_ble_eq_true rfl) rfl rfl (by kernel_rfl) ?_
  refine (hp (k + 1) (by omega) (by omega) _ (hIn.below (HP.below hH1))).mono ?_
  rintro e w5 ⟨nx1, e1, rfl, hP1, hb6⟩
  refine ⟨_, rfl, ?_⟩
  have hH7 : HP Tr w _ [] := HP.call hH1 hb6
  refine WL.pure (v := .tuple #[vI (nx1 : Int), vI e1]) 12 rfl (Nat.le_of_ble_eq_true rfl) rfl rfl (by kernel_rfl) ?_
  refine WL.pure (v := vI (nx1 : Int)) 17 rfl (Nat.le_of_ble_eq_true rfl) rfl rfl (by kernel_rfl) ?_
  refine WL.pure (v := vI e1) 18 rfl (Nat.le_of_ble_eq_true rfl) rfl rfl (by kernel_rfl) ?_
  refine WL.pure (v := vI (nx1 : Int)) 8 rfl (Nat.le_of_ble_eq_true rfl) rfl rfl (by kernel_rfl) ?_
  refine WL.pure (v := vI e1) 9 rfl (Nat.le_of_ble_eq_true rfl) rfl rfl (by kernel_rfl) ?_
  refine WL.nil ?_
  refine WQ.then ?_
  refine hK4 _ _ _ ?_
  refine WC.sub (l' := [(0, .slice p n cap), (1, vI (k : Int)), (4, vI 0), (5, vI 0), (6, vI 0), (7, vI (-1)), (8, vI (nx1 : Int)), (9, vI e1)]) ⟨rfl, rfl, rfl, rfl, rfl, rfl, rfl, rfl, trivial⟩ ?_
  refine WC.seq fun K8 hK8 => ?_
  refine WC.seq fun K9 hK9 => ?_
  refine WC.region ?_
  refine WL.pure (v := vI e1) 19 rfl (Nat.le_of_ble_eq_true rfl) rfl rfl (by kernel_rfl) ?_
  by_cases hd1 : e1 < 0
  ·
    refine WL.pure (v := .bool true) 20 rfl (Nat.le_of_ble_eq_true rfl) rfl rfl (x_lss rfl rfl rfl (dT (hd1))) ?_
    refine WL.pure (v := .bool true) 21 rfl (Nat.le_of_ble_eq_true rfl) rfl rfl (by kernel_rfl) ?_
    refine WL.pass 22 rfl (Nat.le_of_ble_eq_true rfl) rfl ?_
    refine WL.pass 23 rfl (Nat.le_of_ble_eq_true rfl) rfl ?_
    refine WL.pass 24 rfl (Nat.le_of_ble_eq_true rfl) rfl ?_
    refine WL.pass 25 rfl (Nat.le_of_ble_eq_true rfl) rfl ?_
    refine WL.pure (v := .bool true) 26 rfl (Nat.le_of_ble_eq_true rfl) rfl rfl (by kernel_rfl) ?_
    refine WL.nil ?_
    refine WQ.then ?_
    refine hK9 _ _ _ ?_
    refine WC.sub (l' := [(0, .slice p n cap), (1, vI (k : Int)), (4, vI 0), (5, vI 0), (6, vI 0), (7, vI (-1)), (8, vI (nx1 : Int)), (9, vI e1), (26, .bool true)]) ⟨rfl, rfl, rfl, rfl, rfl, rfl, rfl, rfl, rfl, trivial⟩ ?_
    refine WC.yes rfl ?_
    refine WC.seq fun K10 hK10 => ?_
    refine WC.region ?_
    refine WL.pure (v := vI 0) 4 rfl (Nat.le_of_ble_eq_true rfl) rfl rfl (by kernel_rfl) ?_
    refine WL.pure (v := vI 0) 5 rfl (Nat.le_of_ble_eq_true rfl) rfl rfl (by kernel_rfl) ?_
    refine WL.pure (v := vI (-1)) 6 rfl (Nat.le_of_ble_eq_true rfl) rfl rfl (by kernel_rfl) ?_
    refine WL.nil ?_
    refine WQ.then ?_
    refine hK10 _ _ _ ?_
    refine WC.ret ?_
    refine WQ.thenRet ?_
    refine WQ.ret3 4 5 6 rfl rfl rfl rfl ?_
    exact ⟨0, 0, -1, rfl, .inl ⟨rfl, rfl, rfl, Fail_open hO (PR_bad hP1 hd1)⟩, HP.below hH7⟩
  ·
    obtain ⟨d1, rfl, hx1, hn1, ht1, hS1⟩ := PR_ok hP1 hd1
    refine WL.pure (v := .bool false) 20 rfl (Nat.le_of_ble_eq_true rfl) rfl rfl (x_lss rfl rfl rfl (dF (hd1))) ?_
    refine WL.pure (v := .bool false) 21 rfl (Nat.le_of_ble_eq_true rfl) rfl rfl (by kernel_rfl) ?_
    refine WL.pure (v := vI (nx1 : Int)) 22 rfl (Nat.le_of_ble_eq_true rfl) rfl rfl (by kernel_rfl) ?_
    refine WL.pure (v := .slice p n cap) 23 rfl (Nat.le_of_ble_eq_true rfl) rfl rfl (by kernel_rfl) ?_
    refine WL.pure (v := vI (n : Int)) 24 rfl (Nat.le_of_ble_eq_true rfl) rfl rfl (by kernel_rfl) ?_
    by_cases hnx : (n : Int) ≤ (nx1 : Int)
    ·
      refine WL.pure (v := .bool true) 25 rfl (Nat.le_of_ble_eq_true rfl) rfl rfl (x_geq rfl rfl rfl (dT (hnx))) ?_
      refine WL.pure (v := .bool true) 26 rfl (Nat.le_of_ble_eq_true rfl) rfl rfl (by kernel_rfl) ?_
      refine WL.nil ?_
      refine WQ.then ?_
      refine hK9 _ _ _ ?_
      refine WC.sub (l' := [(0, .slice p n cap), (1, vI (k : Int)), (4, vI 0), (5, vI 0), (6, vI 0), (7, vI (-1)), (8, vI (nx1 : Int)), (9, vI (d1 : Int)), (26, .bool true)]) ⟨rfl, rfl, rfl, rfl, rfl, rfl, rfl, rfl, rfl, trivial⟩ ?_
      refine WC.yes rfl ?_
      refine WC.seq fun K11 hK11 => ?_
      refine WC.region ?_
      refine WL.pure (v := vI 0) 4 rfl (Nat.le_of_ble_eq_true rfl) rfl rfl (by kernel_rfl) ?_
      refine WL.pure (v := vI 0) 5 rfl (Nat.le_of_ble_eq_true rfl) rfl rfl (by kernel_rfl) ?_
      refine WL.pure (v := vI (-1)) 6 rfl (Nat.le_of_ble_eq_true rfl) rfl rfl (by kernel_rfl) ?_
      refine WL.nil ?_
      refine WQ.then ?_
      refine hK11 _ _ _ ?_
      refine WC.ret ?_
      refine WQ.thenRet ?_
      refine WQ.ret3 4 5 6 rfl rfl rfl rfl ?_
      exact ⟨0, 0, -1, rfl, .inl ⟨rfl, rfl, rfl, Fail_end hO (d := d1) (nend hS1 (by omega))⟩, HP.below hH7⟩
    ·
      refine WL.pure (v := .bool false) 25 rfl (Nat.le_of_ble_eq_true rfl) rfl rfl (x_geq rfl rfl rfl (dF (hnx))) ?_
      refine WL.pure (v := .bool false) 26 rfl (Nat.le_of_ble_eq_true rfl) rfl rfl (by kernel_rfl) ?_
      refine WL.nil ?_
      refine WQ.then ?_
      refine hK9 _ _ _ ?_
      refine WC.sub (l' := [(0, .slice p n cap), (1, vI (k : Int)), (4, vI 0), (5, vI 0), (6, vI 0), (7, vI (-1)), (8, vI (nx1 : Int)), (9, vI (d1 : Int)), (26, .bool false)]) ⟨rfl, rfl, rfl, rfl, rfl, rfl, rfl, rfl, rfl, trivial⟩ ?_
      refine WC.no rfl ?_
      refine WC.skip ?_
      refine WQ.then ?_
      refine hK8 _ _ _ ?_
      refine WC.seq fun K12 hK12 => ?_
      refine WC.seq fun K13 hK13 => ?_
      obtain ⟨bb, oo, rfl, hrow⟩ := hIn (by omega)
      refine WC.region ?_
      refine WL.pure (v := .slice (some ⟨bb, oo, none⟩) n cap) 27 rfl (Nat.le_of_ble_eq_true rfl) rfl rfl (by kernel_rfl) ?_
      refine WL.pure (v := vI (nx1 : Int)) 28 rfl (Nat.le_of_ble_eq_true rfl) rfl rfl (by kernel_rfl) ?_
      refine WL.pure (v := vP bb (oo + nx1 * 3)) 29 rfl (Nat.le_of_ble_eq_true rfl) rfl rfl (x_idx (nx1) (oo + nx1 * 3) rfl rfl rfl Tryd.underlying22 sz33 (by omega) (by omega) (by omega)) ?_
      refine WL.pure (v := vP bb (oo + nx1 * 3)) 30 rfl (Nat.le_of_ble_eq_true rfl) rfl rfl (by kernel_rfl) ?_
      refine WL.pure (v := vI (c nx1)) 31 rfl (Nat.le_of_ble_eq_true rfl) rfl rfl (x_load rfl rfl Tryd.underlying3 rfl ((HP.oldRange hH7 trivial (hrow nx1 (by omega))) 0 _ rfl)) ?_
      by_cases h34 : c nx1 = 34
      ·
        refine WL.pure (v := .bool true) 32 rfl (Nat.le_of_ble_eq_true rfl) rfl rfl (x_eql rfl rfl rfl (dT (h34))) ?_
        refine WL.nil ?_
        refine WQ.then ?_
        refine hK13 _ _ _ ?_
        refine WC.yes rfl ?_
        refine WC.seq fun K14 hK14 => ?_
        refine WC.seq fun K15 hK15 => ?_
        refine WC.region ?_
        refine WL.pure (v := .slice (some ⟨bb, oo, none⟩) n cap) 33 rfl (Nat.le_of_ble_eq_true rfl) rfl rfl (by kernel_rfl) ?_
        refine WL.pure (v := vI (k : Int)) 34 rfl (Nat.le_of_ble_eq_true rfl) rfl rfl (by kernel_rfl) ?_
        refine WL.pure (v := vP bb (oo + k * 3)) 35 rfl (Nat.le_of_ble_eq_true rfl) rfl rfl (x_idx (k) (oo + k * 3) rfl rfl rfl Tryd.underlying22 sz33 (by omega) (by omega) (by omega)) ?_
        refine WL.pure (v := vP bb (oo + k * 3)) 36 rfl (Nat.le_of_ble_eq_true rfl) rfl rfl (by kernel_rfl) ?_
        refine WL.pure (v := vI (c k)) 37 rfl (Nat.le_of_ble_eq_true rfl) rfl rfl (x_load rfl rfl Tryd.underlying3 rfl ((HP.oldRange hH7 trivial (hrow k (by omega))) 0 _ rfl)) ?_
        by_cases h29 : c k ≠ 29
        ·
          refine WL.pure (v := .bool true) 38 rfl (Nat.le_of_ble_eq_true rfl) rfl rfl (x_neq rfl rfl rfl (dT (h29))) ?_
          refine WL.pure (v := .bool true) 39 rfl (Nat.le_of_ble_eq_true rfl) rfl rfl (by kernel_rfl) ?_
          refine WL.pure (v := .slice (some ⟨bb, oo, none⟩) n cap) 40 rfl (Nat.le_of_ble_eq_true rfl) rfl rfl (by kernel_rfl) ?_
          refine WL.pure (v := vI (k : Int)) 41 rfl (Nat.le_of_ble_eq_true rfl) rfl rfl (by kernel_rfl) ?_
          refine WL.pure (v := vP bb (oo + k * 3)) 42 rfl (Nat.le_of_ble_eq_true rfl) rfl rfl (x_idx (k) (oo + k * 3) rfl rfl rfl Tryd.underlying22 sz33 (by omega) (by omega) (by omega)) ?_
          refine WL.pure (v := vP bb (oo + k * 3)) 43 rfl (Nat.le_of_ble_eq_true rfl) rfl rfl (by kernel_rfl) ?_
          refine WL.pure (v := vI (c k)) 44 rfl (Nat.le_of_ble_eq_true rfl) rfl rfl (x_load rfl rfl Tryd.underlying3 rfl ((HP.oldRange hH7 trivial (hrow k (by omega))) 0 _ rfl)) ?_
          by_cases h33 : c k ≠ 33
          ·
            refine WL.pure (v := .bool true) 45 rfl (Nat.le_of_ble_eq_true rfl) rfl rfl (x_neq rfl rfl rfl (dT (h33))) ?_
            refine WL.pure (v := .bool true) 46 rfl (Nat.le_of_ble_eq_true rfl) rfl rfl (by kernel_rfl) ?_
            refine WL.nil ?_
            refine WQ.then ?_
            refine hK15 _ _ _ ?_
            refine WC.sub (l' := [(0, .slice (some ⟨bb, oo, none⟩) n cap), (1, vI (k : Int)), (4, vI 0), (5, vI 0), (6, vI 0), (7, vI (-1)), (8, vI (nx1 : Int)), (9, vI (d1 : Int)), (26, .bool false), (32, .bool true), (46, .bool true)]) ⟨rfl, rfl, rfl, rfl, rfl, rfl, rfl, rfl, rfl, rfl, rfl, trivial⟩ ?_
            refine WC.yes rfl ?_
            refine WC.seq fun K16 hK16 => ?_
            refine WC.region ?_
            refine WL.pure (v := vI 0) 4 rfl (Nat.le_of_ble_eq_true rfl) rfl rfl (by kernel_rfl) ?_
            refine WL.pure (v := vI 0) 5 rfl (Nat.le_of_ble_eq_true rfl) rfl rfl (by kernel_rfl) ?_
            refine WL.pure (v := vI (-1)) 6 rfl (Nat.le_of_ble_eq_true rfl) rfl rfl (by kernel_rfl) ?_
            refine WL.nil ?_
            refine WQ.then ?_
            refine hK16 _ _ _ ?_
            refine WC.ret ?_
            refine WQ.thenRet ?_
            refine WQ.thenRet ?_
            refine WQ.ret3 4 5 6 rfl rfl rfl rfl ?_
            exact ⟨0, 0, -1, rfl, .inl ⟨rfl, rfl, rfl, Fail_two hO hS1 h34 (by omega) (two_no h29 h33)⟩, HP.below hH7⟩
          ·
            refine WL.pure (v := .bool false) 45 rfl (Nat.le_of_ble_eq_true rfl) rfl rfl (x_neq rfl rfl rfl (dF (h33))) ?_
            refine WL.pure (v := .bool false) 46 rfl (Nat.le_of_ble_eq_true rfl) rfl rfl (by kernel_rfl) ?_
            refine WL.nil ?_
            refine WQ.then ?_
            refine hK15 _ _ _ ?_
            refine WC.sub (l' := [(0, .slice (some ⟨bb, oo, none⟩) n cap), (1, vI (k : Int)), (4, vI 0), (5, vI 0), (6, vI 0), (7, vI (-1)), (8, vI (nx1 : Int)), (9, vI (d1 : Int)), (26, .bool false), (32, .bool true), (46, .bool false)]) ⟨rfl, rfl, rfl, rfl, rfl, rfl, rfl, rfl, rfl, rfl, rfl, trivial⟩ ?_
            refine WC.no rfl ?_
            refine WC.skip ?_
            refine WQ.then ?_
            refine hK14 _ _ _ ?_
            refine WC.seq fun K17 hK17 => ?_
            refine WC.region ?_
            refine WL.pure (v := vI (nx1 : Int)) 47 rfl (Nat.le_of_ble_eq_true rfl) rfl rfl (by kernel_rfl) ?_
            refine WL.pure (v := vI (nx1 : Int)) 7 rfl (Nat.le_of_ble_eq_true rfl) rfl rfl (by kernel_rfl) ?_
            refine WL.nil ?_
            refine WQ.then ?_
            refine hK17 _ _ _ ?_
            refine WC.seq fun K18 hK18 => ?_
            refine WC.region ?_
            refine WL.pure (v := .slice (some ⟨bb, oo, none⟩) n cap) 49 rfl (Nat.le_of_ble_eq_true rfl) rfl rfl (by kernel_rfl) ?_
            refine WL.pure (v := vI (nx1 : Int)) 50 rfl (Nat.le_of_ble_eq_true rfl) rfl rfl (by kernel_rfl) ?_
            refine WL.pure (v := vI ((nx1 + 1 : Nat) : Int)) 51 rfl (Nat.le_of_ble_eq_true rfl) rfl rfl (x_add (Z := ((nx1 + 1 : Nat) : Int)) rfl rfl rfl (by omega) (by omega) (by omega)) ?_
            refine WL.call (f := 52) (args := #[.slice (some ⟨bb, oo, none⟩) n cap, vI ((nx1 + 1 : Nat) : Int)]) 52 rfl (Nat.le_of_ble_eq_true rfl) rfl rfl (by kernel_rfl) ?_
            refine (hp (nx1 + 1) (by omega) (by omega) _ (hIn.below (HP.below hH7))).mono ?_
            rintro e w19 ⟨nx2, e2, rfl, hP2, hb20⟩
            refine ⟨_, rfl, ?_⟩
            have hH21 : HP Tr w _ [] := HP.call hH7 hb20
            refine WL.pure (v := .tuple #[vI (nx2 : Int), vI e2]) 48 rfl (Nat.le_of_ble_eq_true rfl) rfl rfl (by kernel_rfl) ?_
            refine WL.pure (v := vI (nx2 : Int)) 53 rfl (Nat.le_of_ble_eq_true rfl) rfl rfl (by kernel_rfl) ?_
            refine WL.pure (v := vI e2) 54 rfl (Nat.le_of_ble_eq_true rfl) rfl rfl (by kernel_rfl) ?_
            refine WL.pure (v := vI (nx2 : Int)) 10 rfl (Nat.le_of_ble_eq_true rfl) rfl rfl (by kernel_rfl) ?_
            refine WL.pure (v := vI e2) 11 rfl (Nat.le_of_ble_eq_true rfl) rfl rfl (by kernel_rfl) ?_
            refine WL.nil ?_
            refine WQ.then ?_
            refine hK18 _ _ _ ?_
            refine WC.sub (l' := [(0, .slice (some ⟨bb, oo, none⟩) n cap), (1, vI (k : Int)), (4, vI 0), (5, vI 0), (6, vI 0), (7, vI (nx1 : Int)), (8, vI (nx1 : Int)), (9, vI (d1 : Int)), (10, vI (nx2 : Int)), (11, vI e2), (26, .bool false), (32, .bool true), (46, .bool false)]) ⟨rfl, rfl, rfl, rfl, rfl, rfl, rfl, rfl, rfl, rfl, rfl, rfl, rfl, trivial⟩ ?_
            refine WC.seq fun K22 hK22 => ?_
            refine WC.seq fun K23 hK23 => ?_
            refine WC.region ?_
            refine WL.pure (v := vI e2) 55 rfl (Nat.le_of_ble_eq_true rfl) rfl rfl (by kernel_rfl) ?_
            by_cases hd2 : e2 < 0
            ·
              refine WL.pure (v := .bool true) 56 rfl (Nat.le_of_ble_eq_true rfl) rfl rfl (x_lss rfl rfl rfl (dT (hd2))) ?_
              refine WL.pure (v := .bool true) 57 rfl (Nat.le_of_ble_eq_true rfl) rfl rfl (by kernel_rfl) ?_
              refine WL.pass 58 rfl (Nat.le_of_ble_eq_true rfl) rfl ?_
              refine WL.pass 59 rfl (Nat.le_of_ble_eq_true rfl) rfl ?_
              refine WL.pass 60 rfl (Nat.le_of_ble_eq_true rfl) rfl ?_
              refine WL.pass 61 rfl (Nat.le_of_ble_eq_true rfl) rfl ?_
              refine WL.pure (v := .bool true) 62 rfl (Nat.le_of_ble_eq_true rfl) rfl rfl (by kernel_rfl) ?_
              refine WL.pure (v := .bool true) 63 rfl (Nat.le_of_ble_eq_true rfl) rfl rfl (by kernel_rfl) ?_
              refine WL.pass 64 rfl (Nat.le_of_ble_eq_true rfl) rfl ?_
              refine WL.pass 65 rfl (Nat.le_of_ble_eq_true rfl) rfl ?_
              refine WL.pass 66 rfl (Nat.le_of_ble_eq_true rfl) rfl ?_
              refine WL.pass 67 rfl (Nat.le_of_ble_eq_true rfl) rfl ?_
              refine WL.pass 68 rfl (Nat.le_of_ble_eq_true rfl) rfl ?_
              refine WL.pass 69 rfl (Nat.le_of_ble_eq_true rfl) rfl ?_
              refine WL.pure (v := .bool true) 70 rfl (Nat.le_of_ble_eq_true rfl) rfl rfl (by kernel_rfl) ?_
              refine WL.nil ?_
              refine WQ.then ?_
              refine hK23 _ _ _ ?_
              refine WC.sub (l' := [(0, .slice (some ⟨bb, oo, none⟩) n cap), (1, vI (k : Int)), (4, vI 0), (5, vI 0), (6, vI 0), (7, vI (nx1 : Int)), (8, vI (nx1 : Int)), (9, vI (d1 : Int)), (10, vI (nx2 : Int)), (11, vI e2), (26, .bool false), (32, .bool true), (46, .bool false), (70, .bool true)]) ⟨rfl, rfl, rfl, rfl, rfl, rfl, rfl, rfl, rfl, rfl, rfl, rfl, rfl, rfl, trivial⟩ ?_
              refine WC.yes rfl ?_
              refine WC.seq fun K24 hK24 => ?_
              refine WC.region ?_
              refine WL.pure (v := vI 0) 4 rfl (Nat.le_of_ble_eq_true rfl) rfl rfl (by kernel_rfl) ?_
              refine WL.pure (v := vI 0) 5 rfl (Nat.le_of_ble_eq_true rfl) rfl rfl (by kernel_rfl) ?_
              refine WL.pure (v := vI (-1)) 6 rfl (Nat.le_of_ble_eq_true rfl) rfl rfl (by kernel_rfl) ?_
              refine WL.nil ?_
              refine WQ.then ?_
              refine hK24 _ _ _ ?_
              refine WC.ret ?_
              refine WQ.thenRet ?_
              refine WQ.thenRet ?_
              refine WQ.ret3 4 5 6 rfl rfl rfl rfl ?_
              exact ⟨0, 0, -1, rfl, .inl ⟨rfl, rfl, rfl, Fail_alt (two_yes (by omega)) hS1 (by omega) h34 (PR_bad hP2 hd2)⟩, HP.below hH21⟩
            ·
              obtain ⟨d2, rfl, hx2, hn2, ht2, hS2⟩ := PR_ok hP2 hd2
              refine WL.pure (v := .bool false) 56 rfl (Nat.le_of_ble_eq_true rfl) rfl rfl (x_lss rfl rfl rfl (dF (hd2))) ?_
              refine WL.pure (v := .bool false) 57 rfl (Nat.le_of_ble_eq_true rfl) rfl rfl (by kernel_rfl) ?_
              refine WL.pure (v := vI (nx2 : Int)) 58 rfl (Nat.le_of_ble_eq_true rfl) rfl rfl (by kernel_rfl) ?_
              refine WL.pure (v := .slice (some ⟨bb, oo, none⟩) n cap) 59 rfl (Nat.le_of_ble_eq_true rfl) rfl rfl (by kernel_rfl) ?_
              refine WL.pure (v := vI (n : Int)) 60 rfl (Nat.le_of_ble_eq_true rfl) rfl rfl (by kernel_rfl) ?_
              by_cases hnx2 : (n : Int) ≤ (nx2 : Int)
              ·
                refine WL.pure (v := .bool true) 61 rfl (Nat.le_of_ble_eq_true rfl) rfl rfl (x_geq rfl rfl rfl (dT (hnx2))) ?_
                refine WL.pure (v := .bool true) 62 rfl (Nat.le_of_ble_eq_true rfl) rfl rfl (by kernel_rfl) ?_
                refine WL.pure (v := .bool true) 63 rfl (Nat.le_of_ble_eq_true rfl) rfl rfl (by kernel_rfl) ?_
                refine WL.pass 64 rfl (Nat.le_of_ble_eq_true rfl) rfl ?_
                refine WL.pass 65 rfl (Nat.le_of_ble_eq_true rfl) rfl ?_
                refine WL.pass 66 rfl (Nat.le_of_ble_eq_true rfl) rfl ?_
                refine WL.pass 67 rfl (Nat.le_of_ble_eq_true rfl) rfl ?_
                refine WL.pass 68 rfl (Nat.le_of_ble_eq_true rfl) rfl ?_
                refine WL.pass 69 rfl (Nat.le_of_ble_eq_true rfl) rfl ?_
                refine WL.pure (v := .bool true) 70 rfl (Nat.le_of_ble_eq_true rfl) rfl rfl (by kernel_rfl) ?_
                refine WL.nil ?_
                refine WQ.then ?_
                refine hK23 _ _ _ ?_
                refine WC.sub (l' := [(0, .slice (some ⟨bb, oo, none⟩) n cap), (1, vI (k : Int)), (4, vI 0), (5, vI 0), (6, vI 0), (7, vI (nx1 : Int)), (8, vI (nx1 : Int)), (9, vI (d1 : Int)), (10, vI (nx2 : Int)), (11, vI (d2 : Int)), (26, .bool false), (32, .bool true), (46, .bool false), (70, .bool true)]) ⟨rfl, rfl, rfl, rfl, rfl, rfl, rfl, rfl, rfl, rfl, rfl, rfl, rfl, rfl, trivial⟩ ?_
                refine WC.yes rfl ?_
                refine WC.seq fun K25 hK25 => ?_
                refine WC.region ?_
                refine WL.pure (v := vI 0) 4 rfl (Nat.le_of_ble_eq_true rfl) rfl rfl (by kernel_rfl) ?_
                refine WL.pure (v := vI 0) 5 rfl (Nat.le_of_ble_eq_true rfl) rfl rfl (by kernel_rfl) ?_
                refine WL.pure (v := vI (-1)) 6 rfl (Nat.le_of_ble_eq_true rfl) rfl rfl (by kernel_rfl) ?_
                refine WL.nil ?_
                refine WQ.then ?_
                refine hK25 _ _ _ ?_
                refine WC.ret ?_
                refine WQ.thenRet ?_
                refine WQ.thenRet ?_
                refine WQ.ret3 4 5 6 rfl rfl rfl rfl ?_
                exact ⟨0, 0, -1, rfl, .inl ⟨rfl, rfl, rfl, Fail_alt_end (d2 := d2) (two_yes (by omega)) hS1 (by omega) h34 (nend hS2 (by omega))⟩, HP.below hH21⟩
              ·
                refine WL.pure (v := .bool false) 61 rfl (Nat.le_of_ble_eq_true rfl) rfl rfl (x_geq rfl rfl rfl (dF (hnx2))) ?_
                refine WL.pure (v := .bool false) 62 rfl (Nat.le_of_ble_eq_true rfl) rfl rfl (by kernel_rfl) ?_
                refine WL.pure (v := .bool false) 63 rfl (Nat.le_of_ble_eq_true rfl) rfl rfl (by kernel_rfl) ?_
                refine WL.pure (v := .slice (some ⟨bb, oo, none⟩) n cap) 64 rfl (Nat.le_of_ble_eq_true rfl) rfl rfl (by kernel_rfl) ?_
                refine WL.pure (v := vI (nx2 : Int)) 65 rfl (Nat.le_of_ble_eq_true rfl) rfl rfl (by kernel_rfl) ?_
                refine WL.pure (v := vP bb (oo + nx2 * 3)) 66 rfl (Nat.le_of_ble_eq_true rfl) rfl rfl (x_idx (nx2) (oo + nx2 * 3) rfl rfl rfl Tryd.underlying22 sz33 (by omega) (by omega) (by omega)) ?_
                refine WL.pure (v := vP bb (oo + nx2 * 3)) 67 rfl (Nat.le_of_ble_eq_true rfl) rfl rfl (by kernel_rfl) ?_
                refine WL.pure (v := vI (c nx2)) 68 rfl (Nat.le_of_ble_eq_true rfl) rfl rfl (x_load rfl rfl Tryd.underlying3 rfl ((HP.oldRange hH21 trivial (hrow nx2 (by omega))) 0 _ rfl)) ?_
                by_cases h35 : c nx2 ≠ 35
                ·
                  refine WL.pure (v := .bool true) 69 rfl (Nat.le_of_ble_eq_true rfl) rfl rfl (x_neq rfl rfl rfl (dT (h35))) ?_
                  refine WL.pure (v := .bool true) 70 rfl (Nat.le_of_ble_eq_true rfl) rfl rfl (by kernel_rfl) ?_
                  refine WL.nil ?_
                  refine WQ.then ?_
                  refine hK23 _ _ _ ?_
                  refine WC.sub (l' := [(0, .slice (some ⟨bb, oo, none⟩) n cap), (1, vI (k : Int)), (4, vI 0), (5, vI 0), (6, vI 0), (7, vI (nx1 : Int)), (8, vI (nx1 : Int)), (9, vI (d1 : Int)), (10, vI (nx2 : Int)), (11, vI (d2 : Int)), (26, .bool false), (32, .bool true), (46, .bool false), (70, .bool true)]) ⟨rfl, rfl, rfl, rfl, rfl, rfl, rfl, rfl, rfl, rfl, rfl, rfl, rfl, rfl, trivial⟩ ?_
                  refine WC.yes rfl ?_
                  refine WC.seq fun K26 hK26 => ?_
                  refine WC.region ?_
                  refine WL.pure (v := vI 0) 4 rfl (Nat.le_of_ble_eq_true rfl) rfl rfl (by kernel_rfl) ?_
                  refine WL.pure (v := vI 0) 5 rfl (Nat.le_of_ble_eq_true rfl) rfl rfl (by kernel_rfl) ?_
                  refine WL.pure (v := vI (-1)) 6 rfl (Nat.le_of_ble_eq_true rfl) rfl rfl (by kernel_rfl) ?_
                  refine WL.nil ?_
                  refine WQ.then ?_
                  refine hK26 _ _ _ ?_
                  refine WC.ret ?_
                  refine WQ.thenRet ?_
                  refine WQ.thenRet ?_
                  refine WQ.ret3 4 5 6 rfl rfl rfl rfl ?_
                  exact ⟨0, 0, -1, rfl, .inl ⟨rfl, rfl, rfl, Fail_alt_else (two_yes (by omega)) hS1 (by omega) h34 hS2 (by omega) (by have := ht2 (by omega); omega) (by omega)⟩, HP.below hH21⟩
                ·
                  refine WL.pure (v := .bool false) 69 rfl (Nat.le_of_ble_eq_true rfl) rfl rfl (x_neq rfl rfl rfl (dF (h35))) ?_
                  refine WL.pure (v := .bool false) 70 rfl (Nat.le_of_ble_eq_true rfl) rfl rfl (by kernel_rfl) ?_
                  refine WL.nil ?_
                  refine WQ.then ?_
                  refine hK23 _ _ _ ?_
                  refine WC.sub (l' := [(0, .slice (some ⟨bb, oo, none⟩) n cap), (1, vI (k : Int)), (4, vI 0), (5, vI 0), (6, vI 0), (7, vI (nx1 : Int)), (8, vI (nx1 : Int)), (9, vI (d1 : Int)), (10, vI (nx2 : Int)), (11, vI (d2 : Int)), (26, .bool false), (32, .bool true), (46, .bool false), (70, .bool false)]) ⟨rfl, rfl, rfl, rfl, rfl, rfl, rfl, rfl, rfl, rfl, rfl, rfl, rfl, rfl, trivial⟩ ?_
                  refine WC.no rfl ?_
                  refine WC.skip ?_
                  refine WQ.then ?_
                  refine hK22 _ _ _ ?_
                  refine WC.seq fun K27 hK27 => ?_
                  refine WC.region ?_
                  refine WL.pure (v := vI (nx2 : Int)) 71 rfl (Nat.le_of_ble_eq_true rfl) rfl rfl (by kernel_rfl) ?_
                  refine WL.pure (v := vI (nx2 : Int)) 8 rfl (Nat.le_of_ble_eq_true rfl) rfl rfl (by kernel_rfl) ?_
                  refine WL.nil ?_
                  refine WQ.then ?_
                  refine hK27 _ _ _ ?_
                  refine WC.region ?_
                  refine WL.pure (v := vI (d1 : Int)) 72 rfl (Nat.le_of_ble_eq_true rfl) rfl rfl (by kernel_rfl) ?_
                  refine WL.pure (v := vI (d2 : Int)) 73 rfl (Nat.le_of_ble_eq_true rfl) rfl rfl (by kernel_rfl) ?_
                  refine WL.pure (v := vI ((max d1 d2 : Nat) : Int)) 74 rfl (Nat.le_of_ble_eq_true rfl) rfl rfl (x_max (Z := ((max d1 d2 : Nat) : Int)) (t := 0) rfl rfl rfl (by split <;> omega)) ?_
                  refine WL.pure (v := vI ((max d1 d2 : Nat) : Int)) 9 rfl (Nat.le_of_ble_eq_true rfl) rfl rfl (by kernel_rfl) ?_
                  refine WL.nil ?_
                  refine WQ.then ?_
                  refine hK12 _ _ _ ?_
                  refine WC.sub (l' := [(0, .slice (some ⟨bb, oo, none⟩) n cap), (1, vI (k : Int)), (4, vI 0), (5, vI 0), (6, vI 0), (7, vI (nx1 : Int)), (8, vI (nx2 : Int)), (9, vI ((max d1 d2 : Nat) : Int)), (10, vI (nx2 : Int)), (11, vI (d2 : Int)), (26, .bool false), (32, .bool true), (46, .bool false), (70, .bool false)]) ⟨rfl, rfl, rfl, rfl, rfl, rfl, rfl, rfl, rfl, rfl, rfl, rfl, rfl, rfl, trivial⟩ ?_
                  refine WC.seq fun K28 hK28 => ?_
                  refine WC.region ?_
                  refine WL.pure (v := vI (nx1 : Int)) 81 rfl (Nat.le_of_ble_eq_true rfl) rfl rfl (by kernel_rfl) ?_
                  refine WL.pure (v := vI (nx2 : Int)) 82 rfl (Nat.le_of_ble_eq_true rfl) rfl rfl (by kernel_rfl) ?_
                  refine WL.pure (v := vI ((max d1 d2 : Nat) : Int)) 83 rfl (Nat.le_of_ble_eq_true rfl) rfl rfl (by kernel_rfl) ?_
                  refine WL.pure (v := vI (nx1 : Int)) 4 rfl (Nat.le_of_ble_eq_true rfl) rfl rfl (by kernel_rfl) ?_
                  refine WL.pure (v := vI (nx2 : Int)) 5 rfl (Nat.le_of_ble_eq_true rfl) rfl rfl (by kernel_rfl) ?_
                  refine WL.pure (v := vI ((max d1 d2 : Nat) : Int)) 6 rfl (Nat.le_of_ble_eq_true rfl) rfl rfl (by kernel_rfl) ?_
                  refine WL.nil ?_
                  refine WQ.then ?_
                  refine hK28 _ _ _ ?_
                  refine WC.sub (l' := [(0, .slice (some ⟨bb, oo, none⟩) n cap), (1, vI (k : Int)), (4, vI (nx1 : Int)), (5, vI (nx2 : Int)), (6, vI ((max d1 d2 : Nat) : Int)), (7, vI (nx1 : Int)), (8, vI (nx2 : Int)), (9, vI ((max d1 d2 : Nat) : Int)), (10, vI (nx2 : Int)), (11, vI (d2 : Int)), (26, .bool false), (32, .bool true), (46, .bool false), (70, .bool false)]) ⟨rfl, rfl, rfl, rfl, rfl, rfl, rfl, rfl, rfl, rfl, rfl, rfl, rfl, rfl, trivial⟩ ?_
                  refine WC.ret ?_
                  refine WQ.ret3 4 5 6 rfl rfl rfl rfl ?_
                  exact ⟨(nx1 : Int), nx2, ((max d1 d2 : Nat) : Int), rfl, .inr ⟨by omega, by omega, by omega, by simpa using BraS_alt (two_yes (by omega)) hS1 (by omega) h34 hS2 (by omega) (by omega)⟩, HP.below hH21⟩
        ·
          refine WL.pure (v := .bool false) 38 rfl (Nat.le_of_ble_eq_true rfl) rfl rfl (x_neq rfl rfl rfl (dF (h29))) ?_
          refine WL.pure (v := .bool false) 39 rfl (Nat.le_of_ble_eq_true rfl) rfl rfl (by kernel_rfl) ?_
          refine WL.pass 40 rfl (Nat.le_of_ble_eq_true rfl) rfl ?_
          refine WL.pass 41 rfl (Nat.le_of_ble_eq_true rfl) rfl ?_
          refine WL.pass 42 rfl (Nat.le_of_ble_eq_true rfl) rfl ?_
          refine WL.pass 43 rfl (Nat.le_of_ble_eq_true rfl) rfl ?_
          refine WL.pass 44 rfl (Nat.le_of_ble_eq_true rfl) rfl ?_
          refine WL.pass 45 rfl (Nat.le_of_ble_eq_true rfl) rfl ?_
          refine WL.pure (v := .bool false) 46 rfl (Nat.le_of_ble_eq_true rfl) rfl rfl (by kernel_rfl) ?_
          refine WL.nil ?_
          refine WQ.then ?_
          refine hK15 _ _ _ ?_
          refine WC.sub (l' := [(0, .slice (some ⟨bb, oo, none⟩) n cap), (1, vI (k : Int)), (4, vI 0), (5, vI 0), (6, vI 0), (7, vI (-1)), (8, vI (nx1 : Int)), (9, vI (d1 : Int)), (26, .bool false), (32, .bool true), (46, .bool false)]) ⟨rfl, rfl, rfl, rfl, rfl, rfl, rfl, rfl, rfl, rfl, rfl, trivial⟩ ?_
          refine WC.no rfl ?_
          refine WC.skip ?_
          refine WQ.then ?_
          refine hK14 _ _ _ ?_
          refine WC.seq fun K29 hK29 => ?_
          refine WC.region ?_
          refine WL.pure (v := vI (nx1 : Int)) 47 rfl (Nat.le_of_ble_eq_true rfl) rfl rfl (by kernel_rfl) ?_
          refine WL.pure (v := vI (nx1 : Int)) 7 rfl (Nat.le_of_ble_eq_true rfl) rfl rfl (by kernel_rfl) ?_
          refine WL.nil ?_
          refine WQ.then ?_
          refine hK29 _ _ _ ?_
          refine WC.seq fun K30 hK30 => ?_
          refine WC.region ?_
          refine WL.pure (v := .slice (some ⟨bb, oo, none⟩) n cap) 49 rfl (Nat.le_of_ble_eq_true rfl) rfl rfl (by kernel_rfl) ?_
          refine WL.pure (v := vI (nx1 : Int)) 50 rfl (Nat.le_of_ble_eq_true rfl) rfl rfl (by kernel_rfl) ?_
          refine WL.pure (v := vI ((nx1 + 1 : Nat) : Int)) 51 rfl (Nat.le_of_ble_eq_true rfl) rfl rfl (x_add (Z := ((nx1 + 1 : Nat) : Int)) rfl rfl rfl (by omega) (by omega) (by omega)) ?_
          refine WL.call (f := 52) (args := #[.slice (some ⟨bb, oo, none⟩) n cap, vI ((nx1 + 1 : Nat) : Int)]) 52 rfl (Nat.le_of_ble_eq_true rfl) rfl rfl (by kernel_rfl) ?_
          refine (hp (nx1 + 1) (by omega) (by omega) _ (hIn.below (HP.below hH7))).mono ?_
          rintro e w31 ⟨nx2, e2, rfl, hP2, hb32⟩
          refine ⟨_, rfl, ?_⟩
          have hH33 : HP Tr w _ [] := HP.call hH7 hb32
          refine WL.pure (v := .tuple #[vI (nx2 : Int), vI e2]) 48 rfl (Nat.le_of_ble_eq_true rfl) rfl rfl (by kernel_rfl) ?_
          refine WL.pure (v := vI (nx2 : Int)) 53 rfl (Nat.le_of_ble_eq_true rfl) rfl rfl (by kernel_rfl) ?_
          refine WL.pure (v := vI e2) 54 rfl (Nat.le_of_ble_eq_true rfl) rfl rfl (by kernel_rfl) ?_
          refine WL.pure (v := vI (nx2 : Int)) 10 rfl (Nat.le_of_ble_eq_true rfl) rfl rfl (by kernel_rfl) ?_
          refine WL.pure (v := vI e2) 11 rfl (Nat.le_of_ble_eq_true rfl) rfl rfl (by kernel_rfl) ?_
          refine WL.nil ?_
          refine WQ.then ?_
          refine hK30 _ _ _ ?_
          refine WC.sub (l' := [(0, .slice (some ⟨bb, oo, none⟩) n cap), (1, vI (k : Int)), (4, vI 0), (5, vI 0), (6, vI 0), (7, vI (nx1 : Int)), (8, vI (nx1 : Int)), (9, vI (d1 : Int)), (10, vI (nx2 : Int)), (11, vI e2), (26, .bool false), (32, .bool true), (46, .bool false)]) ⟨rfl, rfl, rfl, rfl, rfl, rfl, rfl, rfl, rfl, rfl, rfl, rfl, rfl, trivial⟩ ?_
          refine WC.seq fun K34 hK34 => ?_
          refine WC.seq fun K35 hK35 => ?_
          refine WC.region ?_
          refine WL.pure (v := vI e2) 55 rfl (Nat.le_of_ble_eq_true rfl) rfl rfl (by kernel_rfl) ?_
          by_cases hd2 : e2 < 0
          ·
            refine WL.pure (v := .bool true) 56 rfl (Nat.le_of_ble_eq_true rfl) rfl rfl (x_lss rfl rfl rfl (dT (hd2))) ?_
            refine WL.pure (v := .bool true) 57 rfl (Nat.le_of_ble_eq_true rfl) rfl rfl (by kernel_rfl) ?_
            refine WL.pass 58 rfl (Nat.le_of_ble_eq_true rfl) rfl ?_
            refine WL.pass 59 rfl (Nat.le_of_ble_eq_true rfl) rfl ?_
            refine WL.pass 60 rfl (Nat.le_of_ble_eq_true rfl) rfl ?_
            refine WL.pass 61 rfl (Nat.le_of_ble_eq_true rfl) rfl ?_
            refine WL.pure (v := .bool true) 62 rfl (Nat.le_of_ble_eq_true rfl) rfl rfl (by kernel_rfl) ?_
            refine WL.pure (v := .bool true) 63 rfl (Nat.le_of_ble_eq_true rfl) rfl rfl (by kernel_rfl) ?_
            refine WL.pass 64 rfl (Nat.le_of_ble_eq_true rfl) rfl ?_
            refine WL.pass 65 rfl (Nat.le_of_ble_eq_true rfl) rfl ?_
            refine WL.pass 66 rfl (Nat.le_of_ble_eq_true rfl) rfl ?_
            refine WL.pass 67 rfl (Nat.le_of_ble_eq_true rfl) rfl ?_
            refine WL.pass 68 rfl (Nat.le_of_ble_eq_true rfl) rfl ?_
            refine WL.pass 69 rfl (Nat.le_of_ble_eq_true rfl) rfl ?_
            refine WL.pure (v := .bool true) 70 rfl (Nat.le_of_ble_eq_true rfl) rfl rfl (by kernel_rfl) ?_
            refine WL.nil ?_
            refine WQ.then ?_
            refine hK35 _ _ _ ?_
            refine WC.sub (l' := [(0, .slice (some ⟨bb, oo, none⟩) n cap), (1, vI (k : Int)), (4, vI 0), (5, vI 0), (6, vI 0), (7, vI (nx1 : Int)), (8, vI (nx1 : Int)), (9, vI (d1 : Int)), (10, vI (nx2 : Int)), (11, vI e2), (26, .bool false), (32, .bool true), (46, .bool false), (70, .bool true)]) ⟨rfl, rfl, rfl, rfl, rfl, rfl, rfl, rfl, rfl, rfl, rfl, rfl, rfl, rfl, trivial⟩ ?_
            refine WC.yes rfl ?_
            refine WC.seq fun K36 hK36 => ?_
            refine WC.region ?_
            refine WL.pure (v := vI 0) 4 rfl (Nat.le_of_ble_eq_true rfl) rfl rfl (by kernel_rfl) ?_
            refine WL.pure (v := vI 0) 5 rfl (Nat.le_of_ble_eq_true rfl) rfl rfl (by kernel_rfl) ?_
            refine WL.pure (v := vI (-1)) 6 rfl (Nat.le_of_ble_eq_true rfl) rfl rfl (by kernel_rfl) ?_
            refine WL.nil ?_
            refine WQ.then ?_
            refine hK36 _ _ _ ?_
            refine WC.ret ?_
            refine WQ.thenRet ?_
            refine WQ.thenRet ?_
            refine WQ.ret3 4 5 6 rfl rfl rfl rfl ?_
            exact ⟨0, 0, -1, rfl, .inl ⟨rfl, rfl, rfl, Fail_alt (two_yes (by omega)) hS1 (by omega) h34 (PR_bad hP2 hd2)⟩, HP.below hH33⟩
          ·
            obtain ⟨d2, rfl, hx2, hn2, ht2, hS2⟩ := PR_ok hP2 hd2
            refine WL.pure (v := .bool false) 56 rfl (Nat.le_of_ble_eq_true rfl) rfl rfl (x_lss rfl rfl rfl (dF (hd2))) ?_
            refine WL.pure (v := .bool false) 57 rfl (Nat.le_of_ble_eq_true rfl) rfl rfl (by kernel_rfl) ?_
            refine WL.pure (v := vI (nx2 : Int)) 58 rfl (Nat.le_of_ble_eq_true rfl) rfl rfl (by kernel_rfl) ?_
            refine WL.pure (v := .slice (some ⟨bb, oo, none⟩) n cap) 59 rfl (Nat.le_of_ble_eq_true rfl) rfl rfl (by kernel_rfl) ?_
            refine WL.pure (v := vI (n : Int)) 60 rfl (Nat.le_of_ble_eq_true rfl) rfl rfl (by kernel_rfl) ?_
            by_cases hnx2 : (n : Int) ≤ (nx2 : Int)
            ·
              refine WL.pure (v := .bool true) 61 rfl (Nat.le_of_ble_eq_true rfl) rfl rfl (x_geq rfl rfl rfl (dT (hnx2))) ?_
              refine WL.pure (v := .bool true) 62 rfl (Nat.le_of_ble_eq_true rfl) rfl rfl (by kernel_rfl) ?_
              refine WL.pure (v := .bool true) 63 rfl (Nat.le_of_ble_eq_true rfl) rfl rfl (by kernel_rfl) ?_
              refine WL.pass 64 rfl (Nat.le_of_ble_eq_true rfl) rfl ?_
              refine WL.pass 65 rfl (Nat.le_of_ble_eq_true rfl) rfl ?_
              refine WL.pass 66 rfl (Nat.le_of_ble_eq_true rfl) rfl ?_
              refine WL.pass 67 rfl (Nat.le_of_ble_eq_true rfl) rfl ?_
              refine WL.pass 68 rfl (Nat.le_of_ble_eq_true rfl) rfl ?_
              refine WL.pass 69 rfl (Nat.le_of_ble_eq_true rfl) rfl ?_
              refine WL.pure (v := .bool true) 70 rfl (Nat.le_of_ble_eq_true rfl) rfl rfl (by kernel_rfl) ?_
              refine WL.nil ?_
              refine WQ.then ?_
              refine hK35 _ _ _ ?_
              refine WC.sub (l' := [(0, .slice (some ⟨bb, oo, none⟩) n cap), (1, vI (k : Int)), (4, vI 0), (5, vI 0), (6, vI 0), (7, vI (nx1 : Int)), (8, vI (nx1 : Int)), (9, vI (d1 : Int)), (10, vI (nx2 : Int)), (11, vI (d2 : Int)), (26, .bool false), (32, .bool true), (46, .bool false), (70, .bool true)]) ⟨rfl, rfl, rfl, rfl, rfl, rfl, rfl, rfl, rfl, rfl, rfl, rfl, rfl, rfl, trivial⟩ ?_
              refine WC.yes rfl ?_
              refine WC.seq fun K37 hK37 => ?_
              refine WC.region ?_
              refine WL.pure (v := vI 0) 4 rfl (Nat.le_of_ble_eq_true rfl) rfl rfl (by kernel_rfl) ?_
              refine WL.pure (v := vI 0) 5 rfl (Nat.le_of_ble_eq_true rfl) rfl rfl (by kernel_rfl) ?_
              refine WL.pure (v := vI (-1)) 6 rfl (Nat.le_of_ble_eq_true rfl) rfl rfl (by kernel_rfl) ?_
              refine WL.nil ?_
              refine WQ.then ?_
              refine hK37 _ _ _ ?_
              refine WC.ret ?_
              refine WQ.thenRet ?_
              refine WQ.thenRet ?_
              refine WQ.ret3 4 5 6 rfl rfl rfl rfl ?_
              exact ⟨0, 0, -1, rfl, .inl ⟨rfl, rfl, rfl, Fail_alt_end (d2 := d2) (two_yes (by omega)) hS1 (by omega) h34 (nend hS2 (by omega))⟩, HP.below hH33⟩
            ·
              refine WL.pure (v := .bool false) 61 rfl (Nat.le_of_ble_eq_true rfl) rfl rfl (x_geq rfl rfl rfl (dF (hnx2))) ?_
              refine WL.pure (v := .bool false) 62 rfl (Nat.le_of_ble_eq_true rfl) rfl rfl (by kernel_rfl) ?_
              refine WL.pure (v := .bool false) 63 rfl (Nat.le_of_ble_eq_true rfl) rfl rfl (by kernel_rfl) ?_
              refine WL.pure (v := .slice (some ⟨bb, oo, none⟩) n cap) 64 rfl (Nat.le_of_ble_eq_true rfl) rfl rfl (by kernel_rfl) ?_
              refine WL.pure (v := vI (nx2 : Int)) 65 rfl (Nat.le_of_ble_eq_true rfl) rfl rfl (by kernel_rfl) ?_
              refine WL.pure (v := vP bb (oo + nx2 * 3)) 66 rfl (Nat.le_of_ble_eq_true rfl) rfl rfl (x_idx (nx2) (oo + nx2 * 3) rfl rfl rfl Tryd.underlying22 sz33 (by omega) (by omega) (by omega)) ?_
              refine WL.pure (v := vP bb (oo + nx2 * 3)) 67 rfl (Nat.le_of_ble_eq_true rfl) rfl rfl (by kernel_rfl) ?_
              refine WL.pure (v := vI (c nx2)) 68 rfl (Nat.le_of_ble_eq_true rfl) rfl rfl (x_load rfl rfl Tryd.underlying3 rfl ((HP.oldRange hH33 trivial (hrow nx2 (by omega))) 0 _ rfl)) ?_
              by_cases h35 : c nx2 ≠ 35
              ·
                refine WL.pure (v := .bool true) 69 rfl (Nat.le_of_ble_eq_true rfl) rfl rfl (x_neq rfl rfl rfl (dT (h35))) ?_
                refine WL.pure (v := .bool true) 70 rfl (Nat.le_of_ble_eq_true rfl) rfl rfl (by kernel_rfl) ?_
                refine WL.nil ?_
                refine WQ.then ?_
                refine hK35 _ _ _ ?_
                refine WC.sub (l' := [(0, .slice (some ⟨bb, oo, none⟩) n cap), (1, vI (k : Int)), (4, vI 0), (5, vI 0), (6, vI 0), (7, vI (nx1 : Int)), (8, vI (nx1 : Int)), (9, vI (d1 : Int)), (10, vI (nx2 : Int)), (11, vI (d2 : Int)), (26, .bool false), (32, .bool true), (46, .bool false), (70, .bool true)]) ⟨rfl, rfl, rfl, rfl, rfl, rfl, rfl, rfl, rfl, rfl, rfl, rfl, rfl, rfl, trivial⟩ ?_
                refine WC.yes rfl ?_
                refine WC.seq fun K38 hK38 => ?_
                refine WC.region ?_
                refine WL.pure (v := vI 0) 4 rfl (Nat.le_of_ble_eq_true rfl) rfl rfl (by kernel_rfl) ?_
                refine WL.pure (v := vI 0) 5 rfl (Nat.le_of_ble_eq_true rfl) rfl rfl (by kernel_rfl) ?_
                refine WL.pure (v := vI (-1)) 6 rfl (Nat.le_of_ble_eq_true rfl) rfl rfl (by kernel_rfl) ?_
                refine WL.nil ?_
                refine WQ.then ?_
                refine hK38 _ _ _ ?_
                refine WC.ret ?_
                refine WQ.thenRet ?_
                refine WQ.thenRet ?_
                refine WQ.ret3 4 5 6 rfl rfl rfl rfl ?_
                exact ⟨0, 0, -1, rfl, .inl ⟨rfl, rfl, rfl, Fail_alt_else (two_yes (by omega)) hS1 (by omega) h34 hS2 (by omega) (by have := ht2 (by omega); omega) (by omega)⟩, HP.below hH33⟩
              ·
                refine WL.pure (v := .bool false) 69 rfl (Nat.le_of_ble_eq_true rfl) rfl rfl (x_neq rfl rfl rfl (dF (h35))) ?_
                refine WL.pure (v := .bool false) 70 rfl (Nat.le_of_ble_eq_true rfl) rfl rfl (by kernel_rfl) ?_
                refine WL.nil ?_
                refine WQ.then ?_
                refine hK35 _ _ _ ?_
                refine WC.sub (l' := [(0, .slice (some ⟨bb, oo, none⟩) n cap), (1, vI (k : Int)), (4, vI 0), (5, vI 0), (6, vI 0), (7, vI (nx1 : Int)), (8, vI (nx1 : Int)), (9, vI (d1 : Int)), (10, vI (nx2 : Int)), (11, vI (d2 : Int)), (26, .bool false), (32, .bool true), (46, .bool false), (70, .bool false)]) ⟨rfl, rfl, rfl, rfl, rfl, rfl, rfl, rfl, rfl, rfl, rfl, rfl, rfl, rfl, trivial⟩ ?_
                refine WC.no rfl ?_
                refine WC.skip ?_
                refine WQ.then ?_
                refine hK34 _ _ _ ?_
                refine WC.seq fun K39 hK39 => ?_
                refine WC.region ?_
                refine WL.pure (v := vI (nx2 : Int)) 71 rfl (Nat.le_of_ble_eq_true rfl) rfl rfl (by kernel_rfl) ?_
                refine WL.pure (v := vI (nx2 : Int)) 8 rfl (Nat.le_of_ble_eq_true rfl) rfl rfl (by kernel_rfl) ?_
                refine WL.nil ?_
                refine WQ.then ?_
                refine hK39 _ _ _ ?_
                refine WC.region ?_
                refine WL.pure (v := vI (d1 : Int)) 72 rfl (Nat.le_of_ble_eq_true rfl) rfl rfl (by kernel_rfl) ?_
                refine WL.pure (v := vI (d2 : Int)) 73 rfl (Nat.le_of_ble_eq_true rfl) rfl rfl (by kernel_rfl) ?_
                refine WL.pure (v := vI ((max d1 d2 : Nat) : Int)) 74 rfl (Nat.le_of_ble_eq_true rfl) rfl rfl (x_max (Z := ((max d1 d2 : Nat) : Int)) (t := 0) rfl rfl rfl (by split <;> omega)) ?_
                refine WL.pure (v := vI ((max d1 d2 : Nat) : Int)) 9 rfl (Nat.le_of_ble_eq_true rfl) rfl rfl (by kernel_rfl) ?_
                refine WL.nil ?_
                refine WQ.then ?_
                refine hK12 _ _ _ ?_
                refine WC.sub (l' := [(0, .slice (some ⟨bb, oo, none⟩) n cap), (1, vI (k : Int)), (4, vI 0), (5, vI 0), (6, vI 0), (7, vI (nx1 : Int)), (8, vI (nx2 : Int)), (9, vI ((max d1 d2 : Nat) : Int)), (10, vI (nx2 : Int)), (11, vI (d2 : Int)), (26, .bool false), (32, .bool true), (46, .bool false), (70, .bool false)]) ⟨rfl, rfl, rfl, rfl, rfl, rfl, rfl, rfl, rfl, rfl, rfl, rfl, rfl, rfl, trivial⟩ ?_
                refine WC.seq fun K40 hK40 => ?_
                refine WC.region ?_
                refine WL.pure (v := vI (nx1 : Int)) 81 rfl (Nat.le_of_ble_eq_true rfl) rfl rfl (by kernel_rfl) ?_
                refine WL.pure (v := vI (nx2 : Int)) 82 rfl (Nat.le_of_ble_eq_true rfl) rfl rfl (by kernel_rfl) ?_
                refine WL.pure (v := vI ((max d1 d2 : Nat) : Int)) 83 rfl (Nat.le_of_ble_eq_true rfl) rfl rfl (by kernel_rfl) ?_
                refine WL.pure (v := vI (nx1 : Int)) 4 rfl (Nat.le_of_ble_eq_true rfl) rfl rfl (by kernel_rfl) ?_
                refine WL.pure (v := vI (nx2 : Int)) 5 rfl (Nat.le_of_ble_eq_true rfl) rfl rfl (by kernel_rfl) ?_
                refine WL.pure (v := vI ((max d1 d2 : Nat) : Int)) 6 rfl (Nat.le_of_ble_eq_true rfl) rfl rfl (by kernel_rfl) ?_
                refine WL.nil ?_
                refine WQ.then ?_
                refine hK40 _ _ _ ?_
                refine WC.sub (l' := [(0, .slice (some ⟨bb, oo, none⟩) n cap), (1, vI (k : Int)), (4, vI (nx1 : Int)), (5, vI (nx2 : Int)), (6, vI ((max d1 d2 : Nat) : Int)), (7, vI (nx1 : Int)), (8, vI (nx2 : Int)), (9, vI ((max d1 d2 : Nat) : Int)), (10, vI (nx2 : Int)), (11, vI (d2 : Int)), (26, .bool false), (32, .bool true), (46, .bool false), (70, .bool false)]) ⟨rfl, rfl, rfl, rfl, rfl, rfl, rfl, rfl, rfl, rfl, rfl, rfl, rfl, rfl, trivial⟩ ?_
                refine WC.ret ?_
                refine WQ.ret3 4 5 6 rfl rfl rfl rfl ?_
                exact ⟨(nx1 : Int), nx2, ((max d1 d2 : Nat) : Int), rfl, .inr ⟨by omega, by omega, by omega, by simpa using BraS_alt (two_yes (by omega)) hS1 (by omega) h34 hS2 (by omega) (by omega)⟩, HP.below hH33⟩
      ·
        refine WL.pure (v := .bool false) 32 rfl (Nat.le_of_ble_eq_true rfl) rfl rfl (x_eql rfl rfl rfl (dF (h34))) ?_
        refine WL.nil ?_
        refine WQ.then ?_
        refine hK13 _ _ _ ?_
        refine WC.no rfl ?_
        refine WC.seq fun K41 hK41 => ?_
        refine WC.region ?_
        refine WL.pure (v := .slice (some ⟨bb, oo, none⟩) n cap) 75 rfl (Nat.le_of_ble_eq_true rfl) rfl rfl (by kernel_rfl) ?_
        refine WL.pure (v := vI (k : Int)) 76 rfl (Nat.le_of_ble_eq_true rfl) rfl rfl (by kernel_rfl) ?_
        refine WL.pure (v := vP bb (oo + k * 3)) 77 rfl (Nat.le_of_ble_eq_true rfl) rfl rfl (x_idx (k) (oo + k * 3) rfl rfl rfl Tryd.underlying22 sz33 (by omega) (by omega) (by omega)) ?_
        refine WL.pure (v := vP bb (oo + k * 3)) 78 rfl (Nat.le_of_ble_eq_true rfl) rfl rfl (by kernel_rfl) ?_
        refine WL.pure (v := vI (c k)) 79 rfl (Nat.le_of_ble_eq_true rfl) rfl rfl (x_load rfl rfl Tryd.underlying3 rfl ((HP.oldRange hH7 trivial (hrow k (by omega))) 0 _ rfl)) ?_
        by_cases h33 : c k = 33
        ·
          refine WL.pure (v := .bool true) 80 rfl (Nat.le_of_ble_eq_true rfl) rfl rfl (x_eql rfl rfl rfl (dT (h33))) ?_
          refine WL.nil ?_
          refine WQ.then ?_
          refine hK41 _ _ _ ?_
          refine WC.sub (l' := [(0, .slice (some ⟨bb, oo, none⟩) n cap), (1, vI (k : Int)), (4, vI 0), (5, vI 0), (6, vI 0), (7, vI (-1)), (8, vI (nx1 : Int)), (9, vI (d1 : Int)), (26, .bool false), (32, .bool false), (80, .bool true)]) ⟨rfl, rfl, rfl, rfl, rfl, rfl, rfl, rfl, rfl, rfl, rfl, trivial⟩ ?_
          refine WC.yes rfl ?_
          refine WC.seq fun K42 hK42 => ?_
          refine WC.region ?_
          refine WL.pure (v := vI 0) 4 rfl (Nat.le_of_ble_eq_true rfl) rfl rfl (by kernel_rfl) ?_
          refine WL.pure (v := vI 0) 5 rfl (Nat.le_of_ble_eq_true rfl) rfl rfl (by kernel_rfl) ?_
          refine WL.pure (v := vI (-1)) 6 rfl (Nat.le_of_ble_eq_true rfl) rfl rfl (by kernel_rfl) ?_
          refine WL.nil ?_
          refine WQ.then ?_
          refine hK42 _ _ _ ?_
          refine WC.ret ?_
          refine WQ.thenRet ?_
          refine WQ.ret3 4 5 6 rfl rfl rfl rfl ?_
          exact ⟨0, 0, -1, rfl, .inl ⟨rfl, rfl, rfl, Fail_try hO hS1 (by omega) (by have := ht1 (by omega); omega) (by omega) h33⟩, HP.below hH7⟩
        ·
          refine WL.pure (v := .bool false) 80 rfl (Nat.le_of_ble_eq_true rfl) rfl rfl (x_eql rfl rfl rfl (dF (h33))) ?_
          refine WL.nil ?_
          refine WQ.then ?_
          refine hK41 _ _ _ ?_
          refine WC.sub (l' := [(0, .slice (some ⟨bb, oo, none⟩) n cap), (1, vI (k : Int)), (4, vI 0), (5, vI 0), (6, vI 0), (7, vI (-1)), (8, vI (nx1 : Int)), (9, vI (d1 : Int)), (26, .bool false), (32, .bool false), (80, .bool false)]) ⟨rfl, rfl, rfl, rfl, rfl, rfl, rfl, rfl, rfl, rfl, rfl, trivial⟩ ?_
          refine WC.no rfl ?_
          refine WC.skip ?_
          refine WQ.then ?_
          refine hK12 _ _ _ ?_
          refine WC.seq fun K43 hK43 => ?_
          refine WC.region ?_
          refine WL.pure (v := vI (-1)) 81 rfl (Nat.le_of_ble_eq_true rfl) rfl rfl (by kernel_rfl) ?_
          refine WL.pure (v := vI (nx1 : Int)) 82 rfl (Nat.le_of_ble_eq_true rfl) rfl rfl (by kernel_rfl) ?_
          refine WL.pure (v := vI (d1 : Int)) 83 rfl (Nat.le_of_ble_eq_true rfl) rfl rfl (by kernel_rfl) ?_
          refine WL.pure (v := vI (-1)) 4 rfl (Nat.le_of_ble_eq_true rfl) rfl rfl (by kernel_rfl) ?_
          refine WL.pure (v := vI (nx1 : Int)) 5 rfl (Nat.le_of_ble_eq_true rfl) rfl rfl (by kernel_rfl) ?_
          refine WL.pure (v := vI (d1 : Int)) 6 rfl (Nat.le_of_ble_eq_true rfl) rfl rfl (by kernel_rfl) ?_
          refine WL.nil ?_
          refine WQ.then ?_
          refine hK43 _ _ _ ?_
          refine WC.sub (l' := [(0, .slice (some ⟨bb, oo, none⟩) n cap), (1, vI (k : Int)), (4, vI (-1)), (5, vI (nx1 : Int)), (6, vI (d1 : Int)), (7, vI (-1)), (8, vI (nx1 : Int)), (9, vI (d1 : Int)), (26, .bool false), (32, .bool false), (80, .bool false)]) ⟨rfl, rfl, rfl, rfl, rfl, rfl, rfl, rfl, rfl, rfl, rfl, trivial⟩ ?_
          refine WC.ret ?_
          refine WQ.ret3 4 5 6 rfl rfl rfl rfl ?_
          exact ⟨-1, nx1, (d1 : Int), rfl, .inr ⟨by omega, by omega, by omega, by simpa using BraS_plain hO hS1 (by omega) (by have := ht1 (by omega); omega) (by omega)⟩, HP.below hH7⟩
set_option maxRecDepth 20000 in
set_option maxHeartbeats 4000000 in
theorem par_any (p : Option Addr) (n cap : Nat) (c A B : Nat → Int) (at' : Nat) (hn : n ≤ 400) (hat : at' ≤ n) (hb : ∀ k, at' ≤ k → k < n → opn (c k) = true → BraC p n cap c A B k) (w : World) (hIn : InC w p n c A B) :
    Calls Tryd.prog 52 #[.slice p n cap, vI (at' : Int)] w fun e w' => ∃ (nx : Nat) (d : Int), e = .returned (.tuple #[.int .i64 (nx : Int), .int .i64 d]) ∧ PR c n at' nx d ∧ Below w.heap.size w w' := by
  refine calls_of Tryd.func52 rfl (m := 56) rfl [(0, .slice p n cap), (1, vI (at' : Int))] (Fr_enter [.slice p n cap, vI (at' : Int)] 56 (Nat.le_of_ble_eq_true rfl)) ?_
  have hH1 : HP Tr w w [] := HP.refl w
  refine WC.seq fun K2 hK2 => ?_
  refine WC.region ?_
  refine WL.pure (v := vI 0) 4 rfl (Nat.le_of_ble_eq_true rfl) rfl rfl (by kernel_rfl) ?_
  refine WL.pure (v := vI 0) 5 rfl (Nat.le_of_ble_eq_true rfl) rfl rfl (by kernel_rfl) ?_
  refine WL.nil ?_
  refine WQ.then ?_
  refine hK2 _ _ _ ?_
  refine WC.seq fun K3 hK3 => ?_
  refine WC.region ?_
  refine WL.pure (v := vI 0) 6 rfl (Nat.le_of_ble_eq_true rfl) rfl rfl (by kernel_rfl) ?_
  refine WL.nil ?_
  refine WQ.then ?_
  refine hK3 _ _ _ ?_
  refine WC.seq fun K4 hK4 => ?_
  refine WC.block ?_
  refine WC.loop (fun kk0 ll0 ww0 => ∃ (j : Nat) (d : Nat), ll0 = [(0, .slice p n cap), (1, vI (j : Int)), (6, vI (d : Int))] ∧ kk0 = n - j ∧ (at' ≤ j) ∧ (j ≤ n) ∧ (d + at' ≤ j) ∧ (ParS c at' j d) ∧ HP Tr w ww0 []) (n - at') [(0, .slice p n cap), (1, vI (at' : Int)), (6, vI (0 : Int))] ⟨rfl, rfl, rfl, trivial⟩ ⟨at', 0, rfl, rfl, Nat.le_refl _, hat, by omega, ParS_nil _ _, hH1⟩ ?_
  rintro kk l w6 ⟨j, d, rfl, hkk, hj1, hj2, hjd, hP, hH7⟩ K5 hK5
  refine WC.seq fun K8 hK8 => ?_
  refine WC.seq fun K9 hK9 => ?_
  refine WC.region ?_
  refine WL.pure (v := vI (j : Int)) 10 rfl (Nat.le_of_ble_eq_true rfl) rfl rfl (by kernel_rfl) ?_
  refine WL.pure (v := .slice p n cap) 11 rfl (Nat.le_of_ble_eq_true rfl) rfl rfl (by kernel_rfl) ?_
  refine WL.pure (v := vI (n : Int)) 12 rfl (Nat.le_of_ble_eq_true rfl) rfl rfl (by kernel_rfl) ?_
  by_cases hlt : (j : Int) < (n : Int)
  ·
    obtain ⟨bb, oo, rfl, hrow⟩ := hIn (by omega)
    refine WL.pure (v := .bool true) 13 rfl (Nat.le_of_ble_eq_true rfl) rfl rfl (x_lss rfl rfl rfl (dT (hlt))) ?_
    refine WL.pure (v := .bool true) 14 rfl (Nat.le_of_ble_eq_true rfl) rfl rfl (by kernel_rfl) ?_
    refine WL.pure (v := .slice (some ⟨bb, oo, none⟩) n cap) 15 rfl (Nat.le_of_ble_eq_true rfl) rfl rfl (by kernel_rfl) ?_
    refine WL.pure (v := vI (j : Int)) 16 rfl (Nat.le_of_ble_eq_true rfl) rfl rfl (by kernel_rfl) ?_
    refine WL.pure (v := vP bb (oo + j * 3)) 17 rfl (Nat.le_of_ble_eq_true rfl) rfl rfl (x_idx (j) (oo + j * 3) rfl rfl rfl Tryd.underlying22 sz33 (by omega) (by omega) (by omega)) ?_
    refine WL.pure (v := vP bb (oo + j * 3)) 18 rfl (Nat.le_of_ble_eq_true rfl) rfl rfl (by kernel_rfl) ?_
    refine WL.pure (v := vI (c j)) 19 rfl (Nat.le_of_ble_eq_true rfl) rfl rfl (x_load rfl rfl Tryd.underlying3 rfl ((HP.oldRange hH7 trivial (hrow j (by omega))) 0 _ rfl)) ?_
    by_cases h34 : c j ≠ 34
    ·
      refine WL.pure (v := .bool true) 20 rfl (Nat.le_of_ble_eq_true rfl) rfl rfl (x_neq rfl rfl rfl (dT (h34))) ?_
      refine WL.pure (v := .bool true) 21 rfl (Nat.le_of_ble_eq_true rfl) rfl rfl (by kernel_rfl) ?_
      refine WL.pure (v := .bool true) 22 rfl (Nat.le_of_ble_eq_true rfl) rfl rfl (by kernel_rfl) ?_
      refine WL.pure (v := .slice (some ⟨bb, oo, none⟩) n cap) 23 rfl (Nat.le_of_ble_eq_true rfl) rfl rfl (by kernel_rfl) ?_
      refine WL.pure (v := vI (j : Int)) 24 rfl (Nat.le_of_ble_eq_true rfl) rfl rfl (by kernel_rfl) ?_
      refine WL.pure (v := vP bb (oo + j * 3)) 25 rfl (Nat.le_of_ble_eq_true rfl) rfl rfl (x_idx (j) (oo + j * 3) rfl rfl rfl Tryd.underlying22 sz33 (by omega) (by omega) (by omega)) ?_
      refine WL.pure (v := vP bb (oo + j * 3)) 26 rfl (Nat.le_of_ble_eq_true rfl) rfl rfl (by kernel_rfl) ?_
      refine WL.pure (v := vI (c j)) 27 rfl (Nat.le_of_ble_eq_true rfl) rfl rfl (x_load rfl rfl Tryd.underlying3 rfl ((HP.oldRange hH7 trivial (hrow j (by omega))) 0 _ rfl)) ?_
      by_cases h35 : c j ≠ 35
      ·
        refine WL.pure (v := .bool true) 28 rfl (Nat.le_of_ble_eq_true rfl) rfl rfl (x_neq rfl rfl rfl (dT (h35))) ?_
        refine WL.pure (v := .bool true) 29 rfl (Nat.le_of_ble_eq_true rfl) rfl rfl (by kernel_rfl) ?_
        refine WL.nil ?_
        refine WQ.then ?_
        refine hK9 _ _ _ ?_
        refine WC.sub (l' := [(0, .slice (some ⟨bb, oo, none⟩) n cap), (1, vI (j : Int)), (6, vI (d : Int)), (29, .bool true)]) ⟨rfl, rfl, rfl, rfl, trivial⟩ ?_
        refine WC.yes rfl ?_
        refine WC.skip ?_
        refine WQ.then ?_
        refine hK8 _ _ _ ?_
        refine WC.block ?_
        refine WC.seq fun K10 hK10 => ?_
        refine WC.seq fun K11 hK11 => ?_
        refine WC.region ?_
        refine WL.pure (v := .slice (some ⟨bb, oo, none⟩) n cap) 30 rfl (Nat.le_of_ble_eq_true rfl) rfl rfl (by kernel_rfl) ?_
        refine WL.pure (v := vI (j : Int)) 31 rfl (Nat.le_of_ble_eq_true rfl) rfl rfl (by kernel_rfl) ?_
        refine WL.pure (v := vP bb (oo + j * 3)) 32 rfl (Nat.le_of_ble_eq_true rfl) rfl rfl (x_idx (j) (oo + j * 3) rfl rfl rfl Tryd.underlying22 sz33 (by omega) (by omega) (by omega)) ?_
        refine WL.pure (v := vP bb (oo + j * 3)) 33 rfl (Nat.le_of_ble_eq_true rfl) rfl rfl (by kernel_rfl) ?_
        refine WL.pure (v := vI (c j)) 34 rfl (Nat.le_of_ble_eq_true rfl) rfl rfl (x_load rfl rfl Tryd.underlying3 rfl ((HP.oldRange hH7 trivial (hrow j (by omega))) 0 _ rfl)) ?_
        refine WL.call (f := 43) (args := #[vI (c j)]) 35 rfl (Nat.le_of_ble_eq_true rfl) rfl rfl (by kernel_rfl) ?_
        refine (rOpens_any _ _).mono ?_
        rintro e w12 ⟨rfl, rfl⟩
        refine ⟨_, rfl, ?_⟩
        refine WL.pure (v := .bool (!(opn (c j)))) 36 rfl (Nat.le_of_ble_eq_true rfl) rfl rfl (by kernel_rfl) ?_
        refine WL.nil ?_
        refine WQ.then ?_
        refine hK11 _ _ _ ?_
        refine WC.sub (l' := [(0, .slice (some ⟨bb, oo, none⟩) n cap), (1, vI (j : Int)), (6, vI (d : Int)), (29, .bool true), (36, .bool (!(opn (c j))))]) ⟨rfl, rfl, rfl, rfl, rfl, trivial⟩ ?_
        rcases Bool.eq_false_or_eq_true (opn (c j)) with hO | hO
        ·
          refine WC.no (congrArg (fun b => some (Value.bool (!b))) hO) ?_
          refine WC.skip ?_
          refine WQ.then ?_
          refine hK10 _ _ _ ?_
          refine WC.seq fun K13 hK13 => ?_
          refine WC.region ?_
          refine WL.pure (v := .slice (some ⟨bb, oo, none⟩) n cap) 40 rfl (Nat.le_of_ble_eq_true rfl) rfl rfl (by kernel_rfl) ?_
          refine WL.pure (v := vI (j : Int)) 41 rfl (Nat.le_of_ble_eq_true rfl) rfl rfl (by kernel_rfl) ?_
          refine WL.call (f := 44) (args := #[.slice (some ⟨bb, oo, none⟩) n cap, vI (j : Int)]) 42 rfl (Nat.le_of_ble_eq_true rfl) rfl rfl (by kernel_rfl) ?_
          refine (hb j (by omega) (by omega) hO _ (hIn.below (HP.below hH7))).mono ?_
          rintro e w14 ⟨a1, e1, x1, rfl, hBR, hb15⟩
          refine ⟨_, rfl, ?_⟩
          have hH16 : HP Tr w _ [] := HP.call hH7 hb15
          refine WL.pure (v := .tuple #[vI a1, vI (e1 : Int), vI x1]) 39 rfl (Nat.le_of_ble_eq_true rfl) rfl rfl (by kernel_rfl) ?_
          refine WL.pure (v := vI a1) 43 rfl (Nat.le_of_ble_eq_true rfl) rfl rfl (by kernel_rfl) ?_
          refine WL.pure (v := vI (e1 : Int)) 44 rfl (Nat.le_of_ble_eq_true rfl) rfl rfl (by kernel_rfl) ?_
          refine WL.pure (v := vI x1) 45 rfl (Nat.le_of_ble_eq_true rfl) rfl rfl (by kernel_rfl) ?_
          refine WL.pure (v := vI a1) 7 rfl (Nat.le_of_ble_eq_true rfl) rfl rfl (by kernel_rfl) ?_
          refine WL.pure (v := vI (e1 : Int)) 8 rfl (Nat.le_of_ble_eq_true rfl) rfl rfl (by kernel_rfl) ?_
          refine WL.pure (v := vI x1) 9 rfl (Nat.le_of_ble_eq_true rfl) rfl rfl (by kernel_rfl) ?_
          refine WL.nil ?_
          refine WQ.then ?_
          refine hK13 _ _ _ ?_
          refine WC.sub (l' := [(0, .slice (some ⟨bb, oo, none⟩) n cap), (1, vI (j : Int)), (6, vI (d : Int)), (8, vI (e1 : Int)), (9, vI x1), (29, .bool true), (36, .bool (!(opn (c j))))]) ⟨rfl, rfl, rfl, rfl, rfl, rfl, rfl, trivial⟩ ?_
          refine WC.seq fun K17 hK17 => ?_
          refine WC.seq fun K18 hK18 => ?_
          refine WC.region ?_
          refine WL.pure (v := vI x1) 46 rfl (Nat.le_of_ble_eq_true rfl) rfl rfl (by kernel_rfl) ?_
          by_cases hd : x1 < 0
          ·
            refine WL.pure (v := .bool true) 47 rfl (Nat.le_of_ble_eq_true rfl) rfl rfl (x_lss rfl rfl rfl (dT (hd))) ?_
            refine WL.nil ?_
            refine WQ.then ?_
            refine hK18 _ _ _ ?_
            refine WC.yes rfl ?_
            refine WC.seq fun K19 hK19 => ?_
            refine WC.region ?_
            refine WL.pure (v := vI 0) 4 rfl (Nat.le_of_ble_eq_true rfl) rfl rfl (by kernel_rfl) ?_
            refine WL.pure (v := vI (-1)) 5 rfl (Nat.le_of_ble_eq_true rfl) rfl rfl (by kernel_rfl) ?_
            refine WL.nil ?_
            refine WQ.then ?_
            refine hK19 _ _ _ ?_
            refine WC.ret ?_
            refine WQ.thenRet ?_
            refine WQ.inRet ?_
            refine WQ.thenRet ?_
            refine WQ.inRet ?_
            refine WQ.thenRet ?_
            refine WQ.ret2 4 5 rfl rfl rfl ?_
            exact ⟨0, -1, rfl, .inl ⟨rfl, rfl, Fail_par hP (BR_bad hBR hd)⟩, HP.below hH16⟩
          ·
            obtain ⟨d2, rfl, h1, h2, hBS⟩ := BR_ok hBR hd
            refine WL.pure (v := .bool false) 47 rfl (Nat.le_of_ble_eq_true rfl) rfl rfl (x_lss rfl rfl rfl (dF (hd))) ?_
            refine WL.nil ?_
            refine WQ.then ?_
            refine hK18 _ _ _ ?_
            refine WC.no rfl ?_
            refine WC.skip ?_
            refine WQ.then ?_
            refine hK17 _ _ _ ?_
            refine WC.seq fun K20 hK20 => ?_
            refine WC.region ?_
            refine WL.pure (v := vI (d : Int)) 48 rfl (Nat.le_of_ble_eq_true rfl) rfl rfl (by kernel_rfl) ?_
            refine WL.pure (v := vI (d2 : Int)) 49 rfl (Nat.le_of_ble_eq_true rfl) rfl rfl (by kernel_rfl) ?_
            refine WL.pure (v := vI ((d2 + 1 : Nat) : Int)) 50 rfl (Nat.le_of_ble_eq_true rfl) rfl rfl (x_add (Z := ((d2 + 1 : Nat) : Int)) rfl rfl rfl (by omega) (by omega) (by omega)) ?_
            refine WL.pure (v := vI ((max d (d2 + 1) : Nat) : Int)) 51 rfl (Nat.le_of_ble_eq_true rfl) rfl rfl (x_max (Z := ((max d (d2 + 1) : Nat) : Int)) (t := 0) rfl rfl rfl (by split <;> omega)) ?_
            refine WL.pure (v := vI ((max d (d2 + 1) : Nat) : Int)) 6 rfl (Nat.le_of_ble_eq_true rfl) rfl rfl (by kernel_rfl) ?_
            refine WL.nil ?_
            refine WQ.then ?_
            refine hK20 _ _ _ ?_
            refine WC.sub (l' := [(0, .slice (some ⟨bb, oo, none⟩) n cap), (1, vI (j : Int)), (6, vI ((max d (d2 + 1) : Nat) : Int)), (8, vI (e1 : Int)), (9, vI (d2 : Int)), (29, .bool true), (36, .bool (!(opn (c j)))), (47, .bool false)]) ⟨rfl, rfl, rfl, rfl, rfl, rfl, rfl, rfl, trivial⟩ ?_
            refine WC.region ?_
            refine WL.pure (v := vI (e1 : Int)) 52 rfl (Nat.le_of_ble_eq_true rfl) rfl rfl (by kernel_rfl) ?_
            refine WL.pure (v := vI ((e1 + 1 : Nat) : Int)) 53 rfl (Nat.le_of_ble_eq_true rfl) rfl rfl (x_add (Z := ((e1 + 1 : Nat) : Int)) rfl rfl rfl (by omega) (by omega) (by omega)) ?_
            refine WL.pure (v := vI ((e1 + 1 : Nat) : Int)) 1 rfl (Nat.le_of_ble_eq_true rfl) rfl rfl (by kernel_rfl) ?_
            refine WL.nil ?_
            refine WQ.inNormal ?_
            refine WQ.sub (l' := [(0, .slice (some ⟨bb, oo, none⟩) n cap), (1, vI ((e1 + 1 : Nat) : Int)), (6, vI ((max d (d2 + 1) : Nat) : Int))]) ⟨rfl, rfl, rfl, trivial⟩ ?_
            refine WQ.then (hK5 _ _ _ (by omega) ⟨e1 + 1, max d (d2 + 1), rfl, rfl, by omega, by omega, by omega, ParS_bra hP (by omega) hBS, hH16⟩)
        ·
          refine WC.yes (congrArg (fun b => some (Value.bool (!b))) hO) ?_
          refine WC.seq fun K21 hK21 => ?_
          refine WC.region ?_
          refine WL.pure (v := vI (j : Int)) 37 rfl (Nat.le_of_ble_eq_true rfl) rfl rfl (by kernel_rfl) ?_
          refine WL.pure (v := vI ((j + 1 : Nat) : Int)) 38 rfl (Nat.le_of_ble_eq_true rfl) rfl rfl (x_add (Z := ((j + 1 : Nat) : Int)) rfl rfl rfl (by omega) (by omega) (by omega)) ?_
          refine WL.pure (v := vI ((j + 1 : Nat) : Int)) 1 rfl (Nat.le_of_ble_eq_true rfl) rfl rfl (by kernel_rfl) ?_
          refine WL.nil ?_
          refine WQ.then ?_
          refine hK21 _ _ _ ?_
          refine WC.exit ?_
          refine WQ.thenExit ?_
          refine WQ.inExit ?_
          refine WQ.sub (l' := [(0, .slice (some ⟨bb, oo, none⟩) n cap), (1, vI ((j + 1 : Nat) : Int)), (6, vI (d : Int))]) ⟨rfl, rfl, rfl, trivial⟩ ?_
          refine WQ.then (hK5 _ _ _ (by omega) ⟨j + 1, d, rfl, rfl, by omega, by omega, by omega, ParS_other hP (by omega) hO h34 h35, hH7⟩)
      ·
        refine WL.pure (v := .bool false) 28 rfl (Nat.le_of_ble_eq_true rfl) rfl rfl (x_neq rfl rfl rfl (dF (h35))) ?_
        refine WL.pure (v := .bool false) 29 rfl (Nat.le_of_ble_eq_true rfl) rfl rfl (by kernel_rfl) ?_
        refine WL.nil ?_
        refine WQ.then ?_
        refine hK9 _ _ _ ?_
        refine WC.sub (l' := [(0, .slice (some ⟨bb, oo, none⟩) n cap), (1, vI (j : Int)), (6, vI (d : Int)), (29, .bool false)]) ⟨rfl, rfl, rfl, rfl, trivial⟩ ?_
        refine WC.no rfl ?_
        refine WC.exit ?_
        refine WQ.thenExit ?_
        refine WQ.thenExit ?_
        refine WQ.inExit ?_
        refine WQ.then ?_
        refine hK4 _ _ _ ?_
        refine WC.seq fun K22 hK22 => ?_
        refine WC.region ?_
        refine WL.pure (v := vI (j : Int)) 54 rfl (Nat.le_of_ble_eq_true rfl) rfl rfl (by kernel_rfl) ?_
        refine WL.pure (v := vI (d : Int)) 55 rfl (Nat.le_of_ble_eq_true rfl) rfl rfl (by kernel_rfl) ?_
        refine WL.pure (v := vI (j : Int)) 4 rfl (Nat.le_of_ble_eq_true rfl) rfl rfl (by kernel_rfl) ?_
        refine WL.pure (v := vI (d : Int)) 5 rfl (Nat.le_of_ble_eq_true rfl) rfl rfl (by kernel_rfl) ?_
        refine WL.nil ?_
        refine WQ.then ?_
        refine hK22 _ _ _ ?_
        refine WC.ret ?_
        refine WQ.ret2 4 5 rfl rfl rfl ?_
        exact ⟨j, (d : Int), rfl, .inr ⟨by omega, by omega, by omega, fun hq => by omega, by simpa using hP⟩, HP.below hH7⟩
    ·
      refine WL.pure (v := .bool false) 20 rfl (Nat.le_of_ble_eq_true rfl) rfl rfl (x_neq rfl rfl rfl (dF (h34))) ?_
      refine WL.pure (v := .bool false) 21 rfl (Nat.le_of_ble_eq_true rfl) rfl rfl (by kernel_rfl) ?_
      refine WL.pure (v := .bool false) 22 rfl (Nat.le_of_ble_eq_true rfl) rfl rfl (by kernel_rfl) ?_
      refine WL.pass 23 rfl (Nat.le_of_ble_eq_true rfl) rfl ?_
      refine WL.pass 24 rfl (Nat.le_of_ble_eq_true rfl) rfl ?_
      refine WL.pass 25 rfl (Nat.le_of_ble_eq_true rfl) rfl ?_
      refine WL.pass 26 rfl (Nat.le_of_ble_eq_true rfl) rfl ?_
      refine WL.pass 27 rfl (Nat.le_of_ble_eq_true rfl) rfl ?_
      refine WL.pass 28 rfl (Nat.le_of_ble_eq_true rfl) rfl ?_
      refine WL.pure (v := .bool false) 29 rfl (Nat.le_of_ble_eq_true rfl) rfl rfl (by kernel_rfl) ?_
      refine WL.nil ?_
      refine WQ.then ?_
      refine hK9 _ _ _ ?_
      refine WC.sub (l' := [(0, .slice (some ⟨bb, oo, none⟩) n cap), (1, vI (j : Int)), (6, vI (d : Int)), (29, .bool false)]) ⟨rfl, rfl, rfl, rfl, trivial⟩ ?_
      refine WC.no rfl ?_
      refine WC.exit ?_
      refine WQ.thenExit ?_
      refine WQ.thenExit ?_
      refine WQ.inExit ?_
      refine WQ.then ?_
      refine hK4 _ _ _ ?_
      refine WC.seq fun K23 hK23 => ?_
      refine WC.region ?_
      refine WL.pure (v := vI (j : Int)) 54 rfl (Nat.le_of_ble_eq_true rfl) rfl rfl (by kernel_rfl) ?_
      refine WL.pure (v := vI (d : Int)) 55 rfl (Nat.le_of_ble_eq_true rfl) rfl rfl (by kernel_rfl) ?_
      refine WL.pure (v := vI (j : Int)) 4 rfl (Nat.le_of_ble_eq_true rfl) rfl rfl (by kernel_rfl) ?_
      refine WL.pure (v := vI (d : Int)) 5 rfl (Nat.le_of_ble_eq_true rfl) rfl rfl (by kernel_rfl) ?_
      refine WL.nil ?_
      refine WQ.then ?_
      refine hK23 _ _ _ ?_
      refine WC.ret ?_
      refine WQ.ret2 4 5 rfl rfl rfl ?_
      exact ⟨j, (d : Int), rfl, .inr ⟨by omega, by omega, by omega, fun hq => by omega, by simpa using hP⟩, HP.below hH7⟩
  ·
    refine WL.pure (v := .bool false) 13 rfl (Nat.le_of_ble_eq_true rfl) rfl rfl (x_lss rfl rfl rfl (dF (hlt))) ?_
    refine WL.pure (v := .bool false) 14 rfl (Nat.le_of_ble_eq_true rfl) rfl rfl (by kernel_rfl) ?_
    refine WL.pass 15 rfl (Nat.le_of_ble_eq_true rfl) rfl ?_
    refine WL.pass 16 rfl (Nat.le_of_ble_eq_true rfl) rfl ?_
    refine WL.pass 17 rfl (Nat.le_of_ble_eq_true rfl) rfl ?_
    refine WL.pass 18 rfl (Nat.le_of_ble_eq_true rfl) rfl ?_
    refine WL.pass 19 rfl (Nat.le_of_ble_eq_true rfl) rfl ?_
    refine WL.pass 20 rfl (Nat.le_of_ble_eq_true rfl) rfl ?_
    refine WL.pure (v := .bool false) 21 rfl (Nat.le_of_ble_eq_true rfl) rfl rfl (by kernel_rfl) ?_
    refine WL.pure (v := .bool false) 22 rfl (Nat.le_of_ble_eq_true rfl) rfl rfl (by kernel_rfl) ?_
    refine WL.pass 23 rfl (Nat.le_of_ble_eq_true rfl) rfl ?_
    refine WL.pass 24 rfl (Nat.le_of_ble_eq_true rfl) rfl ?_
    refine WL.pass 25 rfl (Nat.le_of_ble_eq_true rfl) rfl ?_
    refine WL.pass 26 rfl (Nat.le_of_ble_eq_true rfl) rfl ?_
    refine WL.pass 27 rfl (Nat.le_of_ble_eq_true rfl) rfl ?_
    refine WL.pass 28 rfl (Nat.le_of_ble_eq_true rfl) rfl ?_
    refine WL.pure (v := .bool false) 29 rfl (Nat.le_of_ble_eq_true rfl) rfl rfl (by kernel_rfl) ?_
    refine WL.nil ?_
    refine WQ.then ?_
    refine hK9 _ _ _ ?_
    refine WC.sub (l' := [(0, .slice p n cap), (1, vI (j : Int)), (6, vI (d : Int)), (29, .bool false)]) ⟨rfl, rfl, rfl, rfl, trivial⟩ ?_
    refine WC.no rfl ?_
    refine WC.exit ?_
    refine WQ.thenExit ?_
    refine WQ.thenExit ?_
    refine WQ.inExit ?_
    refine WQ.then ?_
    refine hK4 _ _ _ ?_
    refine WC.seq fun K24 hK24 => ?_
    refine WC.region ?_
    refine WL.pure (v := vI (j : Int)) 54 rfl (Nat.le_of_ble_eq_true rfl) rfl rfl (by kernel_rfl) ?_
    refine WL.pure (v := vI (d : Int)) 55 rfl (Nat.le_of_ble_eq_true rfl) rfl rfl (by kernel_rfl) ?_
    refine WL.pure (v := vI (j : Int)) 4 rfl (Nat.le_of_ble_eq_true rfl) rfl rfl (by kernel_rfl) ?_
    refine WL.pure (v := vI (d : Int)) 5 rfl (Nat.le_of_ble_eq_true rfl) rfl rfl (by kernel_rfl) ?_
    refine WL.nil ?_
    refine WQ.then ?_
    refine hK24 _ _ _ ?_
    refine WC.ret ?_
    refine WQ.ret2 4 5 rfl rfl rfl ?_
    exact ⟨j, (d : Int), rfl, .inr ⟨by omega, by omega, by omega, fun hq => by omega, by simpa using hP⟩, HP.below hH7⟩
/-- both, at every index -/
theorem both (p : Option Addr) (n cap : Nat) (c A B : Nat → Int) (hn : n ≤ 400) : ∀ (f at' : Nat), n - at' ≤ f → at' ≤ n → ParC p n cap c A B at'
  | 0, at', hf, hat => par_any p n cap c A B at' hn hat (fun k h1 h2 _ => absurd h1 (by omega))
  | f + 1, at', hf, hat => par_any p n cap c A B at' hn hat (fun k h1 h2 hO => bra_any p n cap c A B k hn h2 hO (fun a ha1 ha2 => both p n cap c A B hn f a (by omega) ha2))
theorem parts_any (p : Option Addr) (n cap : Nat) (c A B : Nat → Int) (hn : n ≤ 400) (at' : Nat) (h : at' ≤ n) : ParC p n cap c A B at' := both p n cap c A B hn n at' (by omega) h
theorem bracket_any (p : Option Addr) (n cap : Nat) (c A B : Nat → Int) (hn : n ≤ 400) (k : Nat) (h : k < n) (hO : opn (c k) = true) : BraC p n cap c A B k := bra_any p n cap c A B k hn h hO (fun a _ ha => parts_any p n cap c A B hn a ha)
end Ec
end Go.Proofs.YteeljnlepbnhkaaDoor
