/- Check, indexed, Match of the program. -/
import Derived.Test.YteeljnlepbnhkaaDoorEK
import Derived.Test.YteeljnlepbnhkaaDoorEN
set_option linter.unusedVariables false
set_option linter.unusedSimpArgs false
namespace Go.Proofs.YteeljnlepbnhkaaDoor
open Go.RowKit Fw
namespace Ec
/-- are all instructions valid? -/
def allV (c A B : Nat → Int) (pl : Bool) (n : Nat) : Bool := (List.range n).all fun i => vld (c i) (A i) (B i) pl
theorem allV_spec {c A B : Nat → Int} {pl : Bool} {n : Nat} : allV c A B pl n = true ↔ ∀ i, i < n → vld (c i) (A i) (B i) pl = true := by
  unfold allV; rw [List.all_eq_true]; simp
theorem allV_iff {c A B : Nat → Int} {pl : Bool} {n : Nat} {r : Int} (h : r < 0 ↔ ∀ i, i < n → vld (c i) (A i) (B i) pl = true) : decide (0 ≤ r) = !allV c A B pl n := by
  rw [← allV_spec] at h
  cases hv : allV c A B pl n
  · rw [hv] at h
    exact decide_eq_true (by have := fun q => (h.1 q); by_cases hq : r < 0; exact absurd (this hq) Bool.false_ne_true; omega)
  · have := h.2 hv
    exact decide_eq_false (by omega)
/-- the error of a code -/
def chk (c A B : Nat → Int) (pl : Bool) (n : Nat) : Int := if 120 < n then 2 else if (!allV c A B pl n) = true then 1 else if (!okS c n) = true then 7 else 0
theorem chk_ok {c A B : Nat → Int} {pl : Bool} {n : Nat} (h : chk c A B pl n = 0) : n ≤ 120 ∧ allV c A B pl n = true ∧ okS c n = true := by
  unfold chk at h
  by_cases h1 : 120 < n
  · rw [if_pos h1] at h; omega
  · rw [if_neg h1] at h
    cases h2 : allV c A B pl n
    · rw [h2] at h; simp at h
    · cases h3 : okS c n
      · rw [h2, h3] at h; simp at h
      · exact ⟨by omega, rfl, rfl⟩
/-- the error of an index into a code -/
def idE (c A B : Nat → Int) (n : Nat) (at' : Int) : Int := if chk c A B false n = 0 then (if 0 ≤ at' ∧ at' < n then 0 else 1) else chk c A B false n
def IdxR (w : World) (c A B : Nat → Int) (n : Nat) (at' : Int) (e : Ending) (w' : World) : Prop :=
  (∃ er : Int, er ≠ 0 ∧ e = .returned (.tuple #[.agg #[.slice none 0 0, .slice none 0 0, .slice none 0 0, .slice none 0 0, .int .i64 0, .bool false], .int .i64 er]) ∧ idE c A B n at' = er ∧ Below w.heap.size w w') ∨
  (0 ≤ at' ∧ at' < n ∧ idE c A B n at' = 0 ∧ ∃ (g0 g1 g2 g3 : Nat) (s : Sh), e = .returned (.tuple #[.agg #[.slice (some ⟨g0, 0, none⟩) n n, .slice (some ⟨g1, 0, none⟩) n n, .slice (some ⟨g2, 0, none⟩) n n, .slice (some ⟨g3, 0, none⟩) n n, .int .i64 (s.m : Int), .bool true], .int .i64 0]) ∧
    shp c n = some s ∧ HP Tr w w' [.cel g0 (irow n s.o) 3, .cel g1 (irow n s.e) 3, .cel g2 (irow n s.d) 3, .cel g3 (irow n s.t) 3])
def shD (c : Nat → Int) (n : Nat) : Sh := (shp c n).getD ⟨[], fun _ => 0, fun _ => 0, fun _ => 0, fun _ => 0, 0⟩
/-- what Match returns -/
def mtc (c A B : Nat → Int) (n : Nat) (at' : Int) : Value :=
  if idE c A B n at' ≠ 0 then .tuple #[.int .i64 0, .int .i64 0, .int .i64 (idE c A B n at')]
  else if opn (c at'.toNat) = false then .tuple #[.int .i64 0, .int .i64 0, .int .i64 3]
  else .tuple #[.int .i64 ((shD c n).e at'.toNat), .int .i64 ((shD c n).d at'.toNat), .int .i64 0]
theorem mtc_bad {c A B : Nat → Int} {n : Nat} {at' er : Int} (h : er ≠ 0) (hE : idE c A B n at' = er) : mtc c A B n at' = .tuple #[.int .i64 0, .int .i64 0, .int .i64 er] := by
  unfold mtc; rw [if_pos (by rw [hE]; exact h), hE]
theorem mtc_none {c A B : Nat → Int} {n k : Nat} (hE : idE c A B n (k : Int) = 0) (hO : opn (c k) = false) : mtc c A B n (k : Int) = .tuple #[.int .i64 0, .int .i64 0, .int .i64 3] := by
  unfold mtc; rw [if_neg (by rw [hE]; simp), if_pos (by simpa using hO)]
theorem mtc_ok {c A B : Nat → Int} {n k : Nat} {s : Sh} (hE : idE c A B n (k : Int) = 0) (hO : opn (c k) = true) (hs : shp c n = some s) : mtc c A B n (k : Int) = .tuple #[.int .i64 (s.e k), .int .i64 (s.d k), .int .i64 0] := by
  unfold mtc; rw [if_neg (by rw [hE]; simp), if_neg (by simp [hO])]; unfold shD; rw [hs]; simp
set_option maxRecDepth 20000 in
set_option maxHeartbeats 4000000 in
theorem chk1_any (op a b : Int) (pl : Bool) (q : Nat) (w : World) (hq : w.cell? ⟨q, 0, none⟩ = some (.bool pl)) :
    Calls Tryd.prog 35 #[.agg #[vI op, vI a, vI b], vP q 0] w fun e w' => e = .returned (.bool (!vld op a b pl)) ∧ Below w.heap.size w w' := by
  refine calls_of Tryd.func35 rfl (m := 8) rfl [(0, .agg #[vI op, vI a, vI b]), (1, vP q 0)] (Fr_enter [.agg #[vI op, vI a, vI b], vP q 0] 8 (Nat.le_of_ble_eq_true rfl)) ?_
  have hH1 : HP Tr w w [] := HP.refl w
  refine WC.seq fun K2 hK2 => ?_
  refine WC.region ?_
  refine WL.alloc (c := #[vI op, vI a, vI b]) (T := 33) hH1 2 rfl (by decide) rfl rfl (fun b3 => vP b3 0) (by kernel_rfl) (fun b3 w4 hw4 => ?_)
  have hH5 : HP Tr w w4 [.cel b3 #[vI op, vI a, vI b] 33] := hw4.2
  have nb3 := hw4.1
  clear hw4
  refine WL.pure (v := .bool false) 3 rfl (Nat.le_of_ble_eq_true rfl) rfl rfl (by kernel_rfl) ?_
  refine WL.nil ?_
  refine WQ.then ?_
  refine hK2 _ _ _ ?_
  refine WC.seq fun K6 hK6 => ?_
  refine WC.region ?_
  refine WL.pure (v := .agg #[vI op, vI a, vI b]) 4 rfl (Nat.le_of_ble_eq_true rfl) rfl rfl (x_loadS (cs := [vI op, vI a, vI b]) rfl rfl Tryd.underlying33 rfl sz33 (HP.range hH5 0 rfl rfl)) ?_
  refine WL.pure (v := .bool pl) 5 rfl (Nat.le_of_ble_eq_true rfl) rfl rfl (x_load rfl rfl Tryd.underlying4 rfl (HP.old hH5 trivial hq)) ?_
  refine WL.call (f := 33) (args := #[.agg #[vI op, vI a, vI b], .bool pl]) 6 rfl (Nat.le_of_ble_eq_true rfl) rfl rfl (by kernel_rfl) ?_
  refine (Valid_any _ _ _ _ _).mono ?_
  rintro e w7 ⟨rfl, hb8⟩
  refine ⟨_, rfl, ?_⟩
  have hH9 : HP Tr w _ [.cel b3 #[vI op, vI a, vI b] 33] := HP.call hH5 hb8
  refine WL.pure (v := .bool (!(vld op a b pl))) 7 rfl (Nat.le_of_ble_eq_true rfl) rfl rfl (by kernel_rfl) ?_
  refine WL.pure (v := .bool (!(vld op a b pl))) 3 rfl (Nat.le_of_ble_eq_true rfl) rfl rfl (by kernel_rfl) ?_
  refine WL.nil ?_
  refine WQ.then ?_
  refine hK6 _ _ _ ?_
  refine WC.sub (l' := [(0, .agg #[vI op, vI a, vI b]), (2, vP b3 0), (3, .bool (!(vld op a b pl)))]) ⟨rfl, rfl, rfl, trivial⟩ ?_
  refine WC.ret ?_
  refine WQ.ret1 3 rfl rfl ?_
  exact ⟨rfl, HP.below hH9⟩
set_option maxRecDepth 20000 in
set_option maxHeartbeats 4000000 in
theorem idx_any (p : Option Addr) (n cap : Nat) (c A B : Nat → Int) (pl : Bool) (q : Nat) (w : World) (hIn : InC w p n c A B) (hn : n ≤ 400) (hq : w.cell? ⟨q, 0, none⟩ = some (.bool pl)) :
    Calls Tryd.prog 54 #[.slice p n cap, .func (.func 35) #[] #[vP q 0]] w fun e w' => ∃ r : Int, e = .returned (.int .i64 r) ∧ (r < 0 ↔ ∀ i, i < n → vld (c i) (A i) (B i) pl = true) ∧ Below w.heap.size w w' := by
  refine calls_of Tryd.func54 rfl (m := 19) rfl [(0, .slice p n cap), (1, .func (.func 35) #[] #[vP q 0])] (Fr_enter [.slice p n cap, .func (.func 35) #[] #[vP q 0]] 19 (Nat.le_of_ble_eq_true rfl)) ?_
  have hH1 : HP Tr w w [] := HP.refl w
  refine WC.seq fun K2 hK2 => ?_
  refine WC.region ?_
  refine WL.pure (v := vI 0) 4 rfl (Nat.le_of_ble_eq_true rfl) rfl rfl (by kernel_rfl) ?_
  refine WL.nil ?_
  refine WQ.then ?_
  refine hK2 _ _ _ ?_
  refine WC.seq fun K3 hK3 => ?_
  refine WC.seq fun K4 hK4 => ?_
  refine WC.region ?_
  refine WL.pure (v := .slice p n cap) 6 rfl (Nat.le_of_ble_eq_true rfl) rfl rfl (by kernel_rfl) ?_
  refine WL.pure (v := vI (n : Int)) 7 rfl (Nat.le_of_ble_eq_true rfl) rfl rfl (by kernel_rfl) ?_
  refine WL.pure (v := vI 0) 8 rfl (Nat.le_of_ble_eq_true rfl) rfl rfl (by kernel_rfl) ?_
  refine WL.nil ?_
  refine WQ.then ?_
  refine hK4 _ _ _ ?_
  refine WC.block ?_
  refine WC.loop (fun kk0 ll0 ww0 => ∃ (k : Nat), ll0 = [(0, .slice p n cap), (1, .func (.func 35) #[] #[vP q 0]), (7, vI (n : Int)), (8, vI (k : Int))] ∧ kk0 = n - k ∧ (k ≤ n) ∧ (∀ i, i < k → vld (c i) (A i) (B i) pl = true) ∧ HP Tr w ww0 []) (n) [(0, .slice p n cap), (1, .func (.func 35) #[] #[vP q 0]), (7, vI (n : Int)), (8, vI 0)] ⟨rfl, rfl, rfl, rfl, trivial⟩ ⟨0, rfl, rfl, Nat.zero_le n, fun i hi => absurd hi (Nat.not_lt_zero i), hH1⟩ ?_
  rintro kk l w6 ⟨k, rfl, hkk, hk, hv, hH7⟩ K5 hK5
  refine WC.seq fun K8 hK8 => ?_
  refine WC.region ?_
  by_cases hlt : (k : Int) < (n : Int)
  ·
    refine WL.pure (v := .bool true) 9 rfl (Nat.le_of_ble_eq_true rfl) rfl rfl (x_lss rfl rfl rfl (dT (hlt))) ?_
    refine WL.nil ?_
    refine WQ.then ?_
    refine hK8 _ _ _ ?_
    refine WC.seq fun K9 hK9 => ?_
    refine WC.yes rfl ?_
    refine WC.skip ?_
    refine WQ.then ?_
    refine hK9 _ _ _ ?_
    refine WC.seq fun K10 hK10 => ?_
    refine WC.block ?_
    refine WC.seq fun K11 hK11 => ?_
    refine WC.region ?_
    refine WL.pure (v := vI (k : Int)) 10 rfl (Nat.le_of_ble_eq_true rfl) rfl rfl (by kernel_rfl) ?_
    refine WL.pure (v := vI (k : Int)) 5 rfl (Nat.le_of_ble_eq_true rfl) rfl rfl (by kernel_rfl) ?_
    refine WL.nil ?_
    refine WQ.then ?_
    refine hK11 _ _ _ ?_
    refine WC.seq fun K12 hK12 => ?_
    have hlt' : k < n := by omega
    obtain ⟨bb, oo, rfl, hrow⟩ := hIn (by omega)
    refine WC.region ?_
    refine WL.pure (v := .func (.func 35) #[] #[vP q 0]) 11 rfl (Nat.le_of_ble_eq_true rfl) rfl rfl (by kernel_rfl) ?_
    refine WL.pure (v := .slice (some ⟨bb, oo, none⟩) n cap) 12 rfl (Nat.le_of_ble_eq_true rfl) rfl rfl (by kernel_rfl) ?_
    refine WL.pure (v := vI (k : Int)) 13 rfl (Nat.le_of_ble_eq_true rfl) rfl rfl (by kernel_rfl) ?_
    refine WL.pure (v := vP bb (oo + k * 3)) 14 rfl (Nat.le_of_ble_eq_true rfl) rfl rfl (x_idx (k) (oo + k * 3) rfl rfl rfl Tryd.underlying22 sz33 (by omega) (by omega) (by omega)) ?_
    refine WL.pure (v := .agg #[vI (c k), vI (A k), vI (B k)]) 15 rfl (Nat.le_of_ble_eq_true rfl) rfl rfl (x_loadS (cs := [vI (c k), vI (A k), vI (B k)]) rfl rfl Tryd.underlying33 rfl sz33 (HP.oldRange hH7 trivial (hrow k (by omega)))) ?_
    refine WL.call (f := 35) (args := #[.agg #[vI (c k), vI (A k), vI (B k)], vP q 0]) 16 rfl (Nat.le_of_ble_eq_true rfl) rfl rfl (by kernel_rfl) ?_
    refine (chk1_any _ _ _ pl q _ (HP.old hH7 trivial hq)).mono ?_
    rintro e w13 ⟨rfl, hb14⟩
    refine ⟨_, rfl, ?_⟩
    have hH15 : HP Tr w _ [] := HP.call hH7 hb14
    refine WL.nil ?_
    refine WQ.then ?_
    refine hK12 _ _ _ ?_
    refine WC.sub (l' := [(0, .slice (some ⟨bb, oo, none⟩) n cap), (1, .func (.func 35) #[] #[vP q 0]), (5, vI (k : Int)), (7, vI (n : Int)), (8, vI (k : Int)), (9, .bool true), (16, .bool (!vld (c k) (A k) (B k) pl))]) ⟨rfl, rfl, rfl, rfl, rfl, rfl, rfl, trivial⟩ ?_
    rcases Bool.eq_false_or_eq_true (vld (c k) (A k) (B k) pl) with hA | hA
    ·
      refine WC.no (congrArg (fun b => some (Value.bool (!b))) hA) ?_
      refine WC.skip ?_
      refine WQ.inNormal ?_
      refine WQ.then ?_
      refine hK10 _ _ _ ?_
      refine WC.region ?_
      refine WL.pure (v := vI ((k + 1 : Nat) : Int)) 18 rfl (Nat.le_of_ble_eq_true rfl) rfl rfl (x_add (Z := ((k + 1 : Nat) : Int)) rfl rfl rfl (by omega) (by omega) (by omega)) ?_
      refine WL.pure (v := vI ((k + 1 : Nat) : Int)) 8 rfl (Nat.le_of_ble_eq_true rfl) rfl rfl (by kernel_rfl) ?_
      refine WL.nil ?_
      refine WQ.sub (l' := [(0, .slice (some ⟨bb, oo, none⟩) n cap), (1, .func (.func 35) #[] #[vP q 0]), (7, vI (n : Int)), (8, vI ((k + 1 : Nat) : Int))]) ⟨rfl, rfl, rfl, rfl, trivial⟩ ?_
      refine WQ.then (hK5 _ _ _ (by omega) ⟨k + 1, rfl, rfl, by omega, fun i hi => (Nat.lt_succ_iff_lt_or_eq.1 hi).elim (hv i) (fun e => e ▸ hA), hH15⟩)
    ·
      refine WC.yes (congrArg (fun b => some (Value.bool (!b))) hA) ?_
      refine WC.seq fun K16 hK16 => ?_
      refine WC.region ?_
      refine WL.pure (v := vI (k : Int)) 17 rfl (Nat.le_of_ble_eq_true rfl) rfl rfl (by kernel_rfl) ?_
      refine WL.pure (v := vI (k : Int)) 4 rfl (Nat.le_of_ble_eq_true rfl) rfl rfl (by kernel_rfl) ?_
      refine WL.nil ?_
      refine WQ.then ?_
      refine hK16 _ _ _ ?_
      refine WC.ret ?_
      refine WQ.inRet ?_
      refine WQ.thenRet ?_
      refine WQ.thenRet ?_
      refine WQ.inRet ?_
      refine WQ.thenRet ?_
      refine WQ.ret1 4 rfl rfl ?_
      exact ⟨k, rfl, ⟨fun h => absurd h (by omega), fun h => absurd (h k hlt') (by rw [hA]; exact Bool.false_ne_true)⟩, HP.below hH15⟩
  ·
    refine WL.pure (v := .bool false) 9 rfl (Nat.le_of_ble_eq_true rfl) rfl rfl (x_lss rfl rfl rfl (dF (hlt))) ?_
    refine WL.nil ?_
    refine WQ.then ?_
    refine hK8 _ _ _ ?_
    refine WC.seq fun K17 hK17 => ?_
    refine WC.no rfl ?_
    refine WC.exit ?_
    refine WQ.thenExit ?_
    refine WQ.thenExit ?_
    refine WQ.inExit ?_
    refine WQ.then ?_
    refine hK3 _ _ _ ?_
    refine WC.seq fun K18 hK18 => ?_
    refine WC.region ?_
    refine WL.pure (v := vI (-1)) 4 rfl (Nat.le_of_ble_eq_true rfl) rfl rfl (by kernel_rfl) ?_
    refine WL.nil ?_
    refine WQ.then ?_
    refine hK18 _ _ _ ?_
    refine WC.ret ?_
    refine WQ.ret1 4 rfl rfl ?_
    exact ⟨-1, rfl, ⟨fun _ i hi => hv i (by omega), fun _ => by omega⟩, HP.below hH7⟩
set_option maxRecDepth 20000 in
set_option maxHeartbeats 4000000 in
theorem con_any (p : Option Addr) (n cap : Nat) (c A B : Nat → Int) (pl : Bool) (q : Nat) (w : World) (hIn : InC w p n c A B) (hn : n ≤ 400) (hq : w.cell? ⟨q, 0, none⟩ = some (.bool pl)) :
    Calls Tryd.prog 34 #[.slice p n cap, .func (.func 35) #[] #[vP q 0]] w fun e w' => e = .returned (.bool (!allV c A B pl n)) ∧ Below w.heap.size w w' := by
  refine calls_of Tryd.func34 rfl (m := 9) rfl [(0, .slice p n cap), (1, .func (.func 35) #[] #[vP q 0])] (Fr_enter [.slice p n cap, .func (.func 35) #[] #[vP q 0]] 9 (Nat.le_of_ble_eq_true rfl)) ?_
  have hH1 : HP Tr w w [] := HP.refl w
  refine WC.seq fun K2 hK2 => ?_
  refine WC.region ?_
  refine WL.pure (v := .bool false) 4 rfl (Nat.le_of_ble_eq_true rfl) rfl rfl (by kernel_rfl) ?_
  refine WL.nil ?_
  refine WQ.then ?_
  refine hK2 _ _ _ ?_
  refine WC.seq fun K3 hK3 => ?_
  refine WC.region ?_
  refine WL.pure (v := .slice p n cap) 5 rfl (Nat.le_of_ble_eq_true rfl) rfl rfl (by kernel_rfl) ?_
  refine WL.pure (v := .func (.func 35) #[] #[vP q 0]) 6 rfl (Nat.le_of_ble_eq_true rfl) rfl rfl (by kernel_rfl) ?_
  refine WL.call (f := 54) (args := #[.slice p n cap, .func (.func 35) #[] #[vP q 0]]) 7 rfl (Nat.le_of_ble_eq_true rfl) rfl rfl (by kernel_rfl) ?_
  refine (idx_any _ _ _ c A B pl q _ (hIn.below (HP.below hH1)) hn (HP.old hH1 trivial hq)).mono ?_
  rintro e w4 ⟨r, rfl, hr, hb5⟩
  refine ⟨_, rfl, ?_⟩
  have hH6 : HP Tr w _ [] := HP.call hH1 hb5
  have hr2 := allV_iff hr
  refine WL.pure (v := .bool (!allV c A B pl n)) 8 rfl (Nat.le_of_ble_eq_true rfl) rfl rfl (x_geq rfl rfl rfl hr2) ?_
  refine WL.pure (v := .bool (!allV c A B pl n)) 4 rfl (Nat.le_of_ble_eq_true rfl) rfl rfl (by kernel_rfl) ?_
  refine WL.nil ?_
  refine WQ.then ?_
  refine hK3 _ _ _ ?_
  refine WC.ret ?_
  refine WQ.ret1 4 rfl rfl ?_
  exact ⟨rfl, HP.below hH6⟩
set_option maxRecDepth 20000 in
set_option maxHeartbeats 4000000 in
theorem Check_any (p : Option Addr) (n cap : Nat) (c A B : Nat → Int) (pl : Bool) (w : World) (hIn : InC w p n c A B) (hn : n ≤ 400) :
    Calls Tryd.prog 13 #[.slice p n cap, .bool pl] w fun e w' => e = .returned (.int .i64 (chk c A B pl n)) ∧ Below w.heap.size w w' := by
  refine calls_of Tryd.func13 rfl (m := 18) rfl [(0, .slice p n cap), (1, .bool pl)] (Fr_enter [.slice p n cap, .bool pl] 18 (Nat.le_of_ble_eq_true rfl)) ?_
  have hH1 : HP Tr w w [] := HP.refl w
  refine WC.seq fun K2 hK2 => ?_
  refine WC.region ?_
  refine WL.alloc (c := #[.bool pl]) (T := 4) hH1 3 rfl (by decide) rfl rfl (fun b1 => vP b1 0) (by kernel_rfl) (fun b1 w3 hw3 => ?_)
  have hH4 : HP Tr w w3 [.cel b1 #[.bool pl] 4] := hw3.2
  have nb1 := hw3.1
  clear hw3
  refine WL.pure (v := vI 0) 4 rfl (Nat.le_of_ble_eq_true rfl) rfl rfl (by kernel_rfl) ?_
  refine WL.nil ?_
  refine WQ.then ?_
  refine hK2 _ _ _ ?_
  refine WC.seq fun K5 hK5 => ?_
  refine WC.block ?_
  refine WC.seq fun K6 hK6 => ?_
  refine WC.region ?_
  refine WL.pure (v := .slice p n cap) 6 rfl (Nat.le_of_ble_eq_true rfl) rfl rfl (by kernel_rfl) ?_
  refine WL.pure (v := vI (n : Int)) 7 rfl (Nat.le_of_ble_eq_true rfl) rfl rfl (by kernel_rfl) ?_
  by_cases hl : (120 : Int) < (n : Int)
  ·
    refine WL.pure (v := .bool true) 8 rfl (Nat.le_of_ble_eq_true rfl) rfl rfl (x_gtr rfl rfl rfl (dT (hl))) ?_
    refine WL.pure (v := .bool true) 5 rfl (Nat.le_of_ble_eq_true rfl) rfl rfl (by kernel_rfl) ?_
    refine WL.nil ?_
    refine WQ.then ?_
    refine hK6 _ _ _ ?_
    refine WC.yes rfl ?_
    refine WC.seq fun K7 hK7 => ?_
    refine WC.region ?_
    refine WL.pure (v := vI 2) 4 rfl (Nat.le_of_ble_eq_true rfl) rfl rfl (by kernel_rfl) ?_
    refine WL.nil ?_
    refine WQ.then ?_
    refine hK7 _ _ _ ?_
    refine WC.ret ?_
    refine WQ.inRet ?_
    refine WQ.thenRet ?_
    refine WQ.ret1 4 rfl rfl ?_
    exact ⟨by rw [show chk c A B pl n = 2 by unfold chk; rw [if_pos (by omega)]], HP.below hH4⟩
  ·
    refine WL.pure (v := .bool false) 8 rfl (Nat.le_of_ble_eq_true rfl) rfl rfl (x_gtr rfl rfl rfl (dF (hl))) ?_
    refine WL.pure (v := .bool false) 5 rfl (Nat.le_of_ble_eq_true rfl) rfl rfl (by kernel_rfl) ?_
    refine WL.nil ?_
    refine WQ.then ?_
    refine hK6 _ _ _ ?_
    refine WC.no rfl ?_
    refine WC.seq fun K8 hK8 => ?_
    refine WC.region ?_
    refine WL.pure (v := .slice p n cap) 10 rfl (Nat.le_of_ble_eq_true rfl) rfl rfl (by kernel_rfl) ?_
    refine WL.pure (v := .func (.func 35) #[] #[vP b1 0]) 11 rfl (Nat.le_of_ble_eq_true rfl) rfl rfl (by kernel_rfl) ?_
    refine WL.call (f := 34) (args := #[.slice p n cap, .func (.func 35) #[] #[vP b1 0]]) 12 rfl (Nat.le_of_ble_eq_true rfl) rfl rfl (by kernel_rfl) ?_
    refine (con_any _ _ _ c A B pl b1 _ (hIn.below (HP.below hH4)) hn (HP.cell hH4 0 rfl rfl)).mono ?_
    rintro e w9 ⟨rfl, hb10⟩
    refine ⟨_, rfl, ?_⟩
    have hH11 : HP Tr w _ [.cel b1 #[.bool pl] 4] := HP.call hH4 hb10
    refine WL.pure (v := .bool (!allV c A B pl n)) 9 rfl (Nat.le_of_ble_eq_true rfl) rfl rfl (by kernel_rfl) ?_
    refine WL.nil ?_
    refine WQ.then ?_
    refine hK8 _ _ _ ?_
    refine WC.sub (l' := [(0, .slice p n cap), (1, .bool pl), (3, vP b1 0), (4, vI 0), (5, .bool false), (9, .bool (!allV c A B pl n))]) ⟨rfl, rfl, rfl, rfl, rfl, rfl, trivial⟩ ?_
    rcases Bool.eq_false_or_eq_true (allV c A B pl n) with hA | hA
    ·
      refine WC.no (congrArg (fun b => some (Value.bool (!b))) hA) ?_
      refine WC.seq fun K12 hK12 => ?_
      refine WC.region ?_
      refine WL.pure (v := .slice p n cap) 14 rfl (Nat.le_of_ble_eq_true rfl) rfl rfl (by kernel_rfl) ?_
      refine WL.call (f := 14) (args := #[.slice p n cap]) 15 rfl (Nat.le_of_ble_eq_true rfl) rfl rfl (by kernel_rfl) ?_
      refine (shapeH_any _ _ _ c A B _ (hIn.below (HP.below hH11)) hn).mono ?_
      rintro e w13 ⟨g0, g1, g2, g3, m, s, rfl, hb14, hok⟩
      refine ⟨_, rfl, ?_⟩
      have hH15 : HP Tr w _ [.cel b1 #[.bool pl] 4, .cel g0 (irow n s.o) 3, .cel g1 (irow n s.e) 3, .cel g2 (irow n s.d) 3, .cel g3 (irow n s.t) 3] := HP.trans hH11 hb14
      refine WL.pure (v := .bool (okS c n)) 16 rfl (Nat.le_of_ble_eq_true rfl) rfl rfl (by kernel_rfl) ?_
      refine WL.pure (v := .bool (!(okS c n))) 17 rfl (Nat.le_of_ble_eq_true rfl) rfl rfl (by kernel_rfl) ?_
      refine WL.pure (v := .bool (!(okS c n))) 13 rfl (Nat.le_of_ble_eq_true rfl) rfl rfl (by kernel_rfl) ?_
      refine WL.nil ?_
      refine WQ.then ?_
      refine hK12 _ _ _ ?_
      rcases Bool.eq_false_or_eq_true (okS c n) with hO | hO
      ·
        refine WC.no (congrArg (fun b => some (Value.bool (!b))) hO) ?_
        refine WC.skip ?_
        refine WQ.inNormal ?_
        refine WQ.then ?_
        refine hK5 _ _ _ ?_
        refine WC.seq fun K16 hK16 => ?_
        refine WC.region ?_
        refine WL.pure (v := vI 0) 4 rfl (Nat.le_of_ble_eq_true rfl) rfl rfl (by kernel_rfl) ?_
        refine WL.nil ?_
        refine WQ.then ?_
        refine hK16 _ _ _ ?_
        refine WC.ret ?_
        refine WQ.ret1 4 rfl rfl ?_
        exact ⟨by rw [show chk c A B pl n = 0 by unfold chk; rw [if_neg (by omega), hA, hO]; rfl], HP.below hH15⟩
      ·
        refine WC.yes (congrArg (fun b => some (Value.bool (!b))) hO) ?_
        refine WC.seq fun K17 hK17 => ?_
        refine WC.region ?_
        refine WL.pure (v := vI 7) 4 rfl (Nat.le_of_ble_eq_true rfl) rfl rfl (by kernel_rfl) ?_
        refine WL.nil ?_
        refine WQ.then ?_
        refine hK17 _ _ _ ?_
        refine WC.ret ?_
        refine WQ.inRet ?_
        refine WQ.thenRet ?_
        refine WQ.ret1 4 rfl rfl ?_
        exact ⟨by rw [show chk c A B pl n = 7 by unfold chk; rw [if_neg (by omega), hA, hO]; rfl], HP.below hH15⟩
    ·
      refine WC.yes (congrArg (fun b => some (Value.bool (!b))) hA) ?_
      refine WC.seq fun K18 hK18 => ?_
      refine WC.region ?_
      refine WL.pure (v := vI 1) 4 rfl (Nat.le_of_ble_eq_true rfl) rfl rfl (by kernel_rfl) ?_
      refine WL.nil ?_
      refine WQ.then ?_
      refine hK18 _ _ _ ?_
      refine WC.ret ?_
      refine WQ.inRet ?_
      refine WQ.thenRet ?_
      refine WQ.ret1 4 rfl rfl ?_
      exact ⟨by rw [show chk c A B pl n = 1 by unfold chk; rw [if_neg (by omega), hA]; rfl], HP.below hH11⟩
set_option maxRecDepth 20000 in
set_option maxHeartbeats 4000000 in
theorem indexed_any (p : Option Addr) (n cap : Nat) (c A B : Nat → Int) (at' : Int) (w : World) (hIn : InC w p n c A B) (hn : n ≤ 400) (h1 : -9223372036854775808 ≤ at') (h2 : at' ≤ 9223372036854775807) :
    Calls Tryd.prog 31 #[.slice p n cap, vI at'] w (IdxR w c A B n at') := by
  refine calls_of Tryd.func31 rfl (m := 24) rfl [(0, .slice p n cap), (1, vI at')] (Fr_enter [.slice p n cap, vI at'] 24 (Nat.le_of_ble_eq_true rfl)) ?_
  have hH1 : HP Tr w w [] := HP.refl w
  refine WC.seq fun K2 hK2 => ?_
  refine WC.region ?_
  refine WL.alloc (c := #[.slice none 0 0, .slice none 0 0, .slice none 0 0, .slice none 0 0, vI 0, .bool false]) (T := 45) hH1 4 rfl (by decide) rfl rfl (fun b1 => vP b1 0) (by kernel_rfl) (fun b1 w3 hw3 => ?_)
  have hH4 : HP Tr w w3 [.cel b1 #[.slice none 0 0, .slice none 0 0, .slice none 0 0, .slice none 0 0, vI 0, .bool false] 45] := hw3.2
  have nb1 := hw3.1
  clear hw3
  refine WL.pure (v := vI 0) 5 rfl (Nat.le_of_ble_eq_true rfl) rfl rfl (by kernel_rfl) ?_
  refine WL.nil ?_
  refine WQ.then ?_
  refine hK2 _ _ _ ?_
  refine WC.seq fun K5 hK5 => ?_
  refine WC.seq fun K6 hK6 => ?_
  refine WC.region ?_
  refine WL.pure (v := .slice p n cap) 7 rfl (Nat.le_of_ble_eq_true rfl) rfl rfl (by kernel_rfl) ?_
  refine WL.call (f := 13) (args := #[.slice p n cap, .bool false]) 8 rfl (Nat.le_of_ble_eq_true rfl) rfl rfl (by kernel_rfl) ?_
  refine (Check_any _ _ _ c A B false _ (hIn.below (HP.below hH4)) hn).mono ?_
  rintro e w7 ⟨rfl, hb8⟩
  refine ⟨_, rfl, ?_⟩
  have hH9 : HP Tr w _ [.cel b1 #[.slice none 0 0, .slice none 0 0, .slice none 0 0, .slice none 0 0, vI 0, .bool false] 45] := HP.call hH4 hb8
  refine WL.pure (v := vI (chk c A B false n)) 6 rfl (Nat.le_of_ble_eq_true rfl) rfl rfl (by kernel_rfl) ?_
  refine WL.nil ?_
  refine WQ.then ?_
  refine hK6 _ _ _ ?_
  refine WC.seq fun K10 hK10 => ?_
  refine WC.region ?_
  refine WL.pure (v := vI (chk c A B false n)) 9 rfl (Nat.le_of_ble_eq_true rfl) rfl rfl (by kernel_rfl) ?_
  by_cases hc : chk c A B false n ≠ 0
  ·
    refine WL.pure (v := .bool true) 10 rfl (Nat.le_of_ble_eq_true rfl) rfl rfl (x_neq rfl rfl rfl (dT (hc))) ?_
    refine WL.nil ?_
    refine WQ.then ?_
    refine hK10 _ _ _ ?_
    refine WC.yes rfl ?_
    refine WC.seq fun K11 hK11 => ?_
    refine WC.region ?_
    refine WL.pure (v := .agg #[.slice none 0 0, .slice none 0 0, .slice none 0 0, .slice none 0 0, vI 0, .bool false]) 11 rfl (Nat.le_of_ble_eq_true rfl) rfl rfl (by kernel_rfl) ?_
    refine WL.pure (v := vI (chk c A B false n)) 12 rfl (Nat.le_of_ble_eq_true rfl) rfl rfl (by kernel_rfl) ?_
    refine WL.storeS (H2 := [.cel b1 #[.slice none 0 0, .slice none 0 0, .slice none 0 0, .slice none 0 0, vI 0, .bool false] 45]) 0 hH9 rfl rfl rfl rfl rfl rfl sz45 rfl (Nat.le_of_ble_eq_true rfl) rfl rfl ?_
    intro w12 hH13
    refine WL.pure (v := vI (chk c A B false n)) 5 rfl (Nat.le_of_ble_eq_true rfl) rfl rfl (by kernel_rfl) ?_
    refine WL.nil ?_
    refine WQ.then ?_
    refine hK11 _ _ _ ?_
    refine WC.sub (l' := [(0, .slice p n cap), (1, vI at'), (4, vP b1 0), (5, vI (chk c A B false n)), (6, vI (chk c A B false n)), (10, .bool true)]) ⟨rfl, rfl, rfl, rfl, rfl, rfl, trivial⟩ ?_
    refine WC.ret ?_
    refine WQ.thenRet ?_
    refine WQ.retC2 4 45 5 rfl rfl rfl (HP.loadRow hH13 0 rfl Tryd.underlying45 rfl sz45) ?_
    exact .inl ⟨chk c A B false n, by omega, rfl, by unfold idE; rw [if_neg hc], HP.below hH13⟩
  ·
    refine WL.pure (v := .bool false) 10 rfl (Nat.le_of_ble_eq_true rfl) rfl rfl (x_neq rfl rfl rfl (dF (hc))) ?_
    refine WL.nil ?_
    refine WQ.then ?_
    refine hK10 _ _ _ ?_
    refine WC.no rfl ?_
    refine WC.skip ?_
    refine WQ.then ?_
    refine hK5 _ _ _ ?_
    refine WC.seq fun K14 hK14 => ?_
    refine WC.seq fun K15 hK15 => ?_
    refine WC.region ?_
    refine WL.pure (v := vI at') 13 rfl (Nat.le_of_ble_eq_true rfl) rfl rfl (by kernel_rfl) ?_
    by_cases hlo : at' < 0
    ·
      refine WL.pure (v := .bool true) 14 rfl (Nat.le_of_ble_eq_true rfl) rfl rfl (x_lss rfl rfl rfl (dT (hlo))) ?_
      refine WL.pure (v := .bool true) 15 rfl (Nat.le_of_ble_eq_true rfl) rfl rfl (by kernel_rfl) ?_
      refine WL.pass 16 rfl (by decide) rfl ?_
      refine WL.pass 17 rfl (by decide) rfl ?_
      refine WL.pass 18 rfl (by decide) rfl ?_
      refine WL.pass 19 rfl (by decide) rfl ?_
      refine WL.pure (v := .bool true) 20 rfl (Nat.le_of_ble_eq_true rfl) rfl rfl (by kernel_rfl) ?_
      refine WL.nil ?_
      refine WQ.then ?_
      refine hK15 _ _ _ ?_
      refine WC.sub (l' := [(0, .slice p n cap), (1, vI at'), (4, vP b1 0), (5, vI 0), (6, vI (chk c A B false n)), (10, .bool false), (20, .bool true)]) ⟨rfl, rfl, rfl, rfl, rfl, rfl, rfl, trivial⟩ ?_
      refine WC.yes rfl ?_
      refine WC.seq fun K16 hK16 => ?_
      refine WC.region ?_
      refine WL.pure (v := .agg #[.slice none 0 0, .slice none 0 0, .slice none 0 0, .slice none 0 0, vI 0, .bool false]) 21 rfl (Nat.le_of_ble_eq_true rfl) rfl rfl (by kernel_rfl) ?_
      refine WL.storeS (H2 := [.cel b1 #[.slice none 0 0, .slice none 0 0, .slice none 0 0, .slice none 0 0, vI 0, .bool false] 45]) 0 hH9 rfl rfl rfl rfl rfl rfl sz45 rfl (Nat.le_of_ble_eq_true rfl) rfl rfl ?_
      intro w17 hH18
      refine WL.pure (v := vI 1) 5 rfl (Nat.le_of_ble_eq_true rfl) rfl rfl (by kernel_rfl) ?_
      refine WL.nil ?_
      refine WQ.then ?_
      refine hK16 _ _ _ ?_
      refine WC.ret ?_
      refine WQ.thenRet ?_
      refine WQ.retC2 4 45 5 rfl rfl rfl (HP.loadRow hH18 0 rfl Tryd.underlying45 rfl sz45) ?_
      exact .inl ⟨1, by omega, rfl, by unfold idE; rw [if_pos (by omega), if_neg (by omega)], HP.below hH18⟩
    ·
      refine WL.pure (v := .bool false) 14 rfl (Nat.le_of_ble_eq_true rfl) rfl rfl (x_lss rfl rfl rfl (dF (hlo))) ?_
      refine WL.pure (v := .bool false) 15 rfl (Nat.le_of_ble_eq_true rfl) rfl rfl (by kernel_rfl) ?_
      refine WL.pure (v := vI at') 16 rfl (Nat.le_of_ble_eq_true rfl) rfl rfl (by kernel_rfl) ?_
      refine WL.pure (v := .slice p n cap) 17 rfl (Nat.le_of_ble_eq_true rfl) rfl rfl (by kernel_rfl) ?_
      refine WL.pure (v := vI (n : Int)) 18 rfl (Nat.le_of_ble_eq_true rfl) rfl rfl (by kernel_rfl) ?_
      by_cases hhi : (n : Int) ≤ at'
      ·
        refine WL.pure (v := .bool true) 19 rfl (Nat.le_of_ble_eq_true rfl) rfl rfl (x_geq rfl rfl rfl (dT (hhi))) ?_
        refine WL.pure (v := .bool true) 20 rfl (Nat.le_of_ble_eq_true rfl) rfl rfl (by kernel_rfl) ?_
        refine WL.nil ?_
        refine WQ.then ?_
        refine hK15 _ _ _ ?_
        refine WC.sub (l' := [(0, .slice p n cap), (1, vI at'), (4, vP b1 0), (5, vI 0), (6, vI (chk c A B false n)), (10, .bool false), (20, .bool true)]) ⟨rfl, rfl, rfl, rfl, rfl, rfl, rfl, trivial⟩ ?_
        refine WC.yes rfl ?_
        refine WC.seq fun K19 hK19 => ?_
        refine WC.region ?_
        refine WL.pure (v := .agg #[.slice none 0 0, .slice none 0 0, .slice none 0 0, .slice none 0 0, vI 0, .bool false]) 21 rfl (Nat.le_of_ble_eq_true rfl) rfl rfl (by kernel_rfl) ?_
        refine WL.storeS (H2 := [.cel b1 #[.slice none 0 0, .slice none 0 0, .slice none 0 0, .slice none 0 0, vI 0, .bool false] 45]) 0 hH9 rfl rfl rfl rfl rfl rfl sz45 rfl (Nat.le_of_ble_eq_true rfl) rfl rfl ?_
        intro w20 hH21
        refine WL.pure (v := vI 1) 5 rfl (Nat.le_of_ble_eq_true rfl) rfl rfl (by kernel_rfl) ?_
        refine WL.nil ?_
        refine WQ.then ?_
        refine hK19 _ _ _ ?_
        refine WC.ret ?_
        refine WQ.thenRet ?_
        refine WQ.retC2 4 45 5 rfl rfl rfl (HP.loadRow hH21 0 rfl Tryd.underlying45 rfl sz45) ?_
        exact .inl ⟨1, by omega, rfl, by unfold idE; rw [if_pos (by omega), if_neg (by omega)], HP.below hH21⟩
      ·
        refine WL.pure (v := .bool false) 19 rfl (Nat.le_of_ble_eq_true rfl) rfl rfl (x_geq rfl rfl rfl (dF (hhi))) ?_
        refine WL.pure (v := .bool false) 20 rfl (Nat.le_of_ble_eq_true rfl) rfl rfl (by kernel_rfl) ?_
        refine WL.nil ?_
        refine WQ.then ?_
        refine hK15 _ _ _ ?_
        refine WC.sub (l' := [(0, .slice p n cap), (1, vI at'), (4, vP b1 0), (5, vI 0), (6, vI (chk c A B false n)), (10, .bool false), (20, .bool false)]) ⟨rfl, rfl, rfl, rfl, rfl, rfl, rfl, trivial⟩ ?_
        refine WC.no rfl ?_
        refine WC.skip ?_
        refine WQ.then ?_
        refine hK14 _ _ _ ?_
        refine WC.seq fun K22 hK22 => ?_
        refine WC.region ?_
        refine WL.pure (v := .slice p n cap) 22 rfl (Nat.le_of_ble_eq_true rfl) rfl rfl (by kernel_rfl) ?_
        refine WL.call (f := 14) (args := #[.slice p n cap]) 23 rfl (Nat.le_of_ble_eq_true rfl) rfl rfl (by kernel_rfl) ?_
        refine (shapeH_any _ _ _ c A B _ (hIn.below (HP.below hH9)) hn).mono ?_
        rintro e w23 ⟨g0, g1, g2, g3, m, s, rfl, hb24, hok⟩
        refine ⟨_, rfl, ?_⟩
        have hH25 : HP Tr w _ [.cel b1 #[.slice none 0 0, .slice none 0 0, .slice none 0 0, .slice none 0 0, vI 0, .bool false] 45, .cel g0 (irow n s.o) 3, .cel g1 (irow n s.e) 3, .cel g2 (irow n s.d) 3, .cel g3 (irow n s.t) 3] := HP.trans hH9 hb24
        have hok0 := hok
        refine WL.storeS (H2 := [.cel b1 #[vS g0 n n, vS g1 n n, vS g2 n n, vS g3 n n, vI m, .bool (okS c n)] 45, .cel g0 (irow n s.o) 3, .cel g1 (irow n s.e) 3, .cel g2 (irow n s.d) 3, .cel g3 (irow n s.t) 3]) 0 hH25 rfl rfl rfl rfl rfl rfl sz45 rfl (Nat.le_of_ble_eq_true rfl) rfl rfl ?_
        intro w26 hH27
        refine WL.pure (v := vI 0) 5 rfl (Nat.le_of_ble_eq_true rfl) rfl rfl (by kernel_rfl) ?_
        refine WL.nil ?_
        refine WQ.then ?_
        refine hK22 _ _ _ ?_
        refine WC.ret ?_
        refine WQ.retC2 4 45 5 rfl rfl rfl (HP.loadRow hH27 0 rfl Tryd.underlying45 rfl sz45) ?_
        have hq3 := chk_ok (show chk c A B false n = 0 by omega)
        obtain ⟨hs, rfl⟩ := hok0 hq3.2.2
        rw [hq3.2.2]
        exact .inr ⟨by omega, by omega, by unfold idE; rw [if_pos (by omega), if_pos (by omega)], g0, g1, g2, g3, s, rfl, hs, HP.drop hH27 0⟩
set_option maxRecDepth 20000 in
set_option maxHeartbeats 4000000 in
theorem Match_any (p : Option Addr) (n cap : Nat) (c A B : Nat → Int) (at' : Int) (w : World) (hIn : InC w p n c A B) (hn : n ≤ 400) (h1 : -9223372036854775808 ≤ at') (h2 : at' ≤ 9223372036854775807) :
    Calls Tryd.prog 11 #[.slice p n cap, vI at'] w fun e w' => e = .returned (mtc c A B n at') ∧ Below w.heap.size w w' := by
  refine calls_of Tryd.func11 rfl (m := 37) rfl [(0, .slice p n cap), (1, vI at')] (Fr_enter [.slice p n cap, vI at'] 37 (Nat.le_of_ble_eq_true rfl)) ?_
  have hH1 : HP Tr w w [] := HP.refl w
  refine WC.seq fun K2 hK2 => ?_
  refine WC.region ?_
  refine WL.pure (v := vI 0) 4 rfl (Nat.le_of_ble_eq_true rfl) rfl rfl (by kernel_rfl) ?_
  refine WL.pure (v := vI 0) 5 rfl (Nat.le_of_ble_eq_true rfl) rfl rfl (by kernel_rfl) ?_
  refine WL.pure (v := vI 0) 6 rfl (Nat.le_of_ble_eq_true rfl) rfl rfl (by kernel_rfl) ?_
  refine WL.nil ?_
  refine WQ.then ?_
  refine hK2 _ _ _ ?_
  refine WC.seq fun K3 hK3 => ?_
  refine WC.region ?_
  refine WL.pure (v := .slice p n cap) 10 rfl (Nat.le_of_ble_eq_true rfl) rfl rfl (by kernel_rfl) ?_
  refine WL.pure (v := vI at') 11 rfl (Nat.le_of_ble_eq_true rfl) rfl rfl (by kernel_rfl) ?_
  refine WL.call (f := 31) (args := #[.slice p n cap, vI at']) 12 rfl (Nat.le_of_ble_eq_true rfl) rfl rfl (by kernel_rfl) ?_
  refine (indexed_any _ _ _ c A B at' _ (hIn.below (HP.below hH1)) hn h1 h2).mono ?_
  rintro e w1 (⟨er, her, rfl, hE, hb⟩ | ⟨hr0, hr1, hE, g0, g1, g2, g3, s, rfl, hs, hb⟩)
  ·
    refine ⟨_, rfl, ?_⟩
    have hH4 : HP Tr w _ [] := HP.call hH1 hb
    refine WL.pure (v := .tuple #[.agg #[.slice none 0 0, .slice none 0 0, .slice none 0 0, .slice none 0 0, vI 0, .bool false], vI er]) 9 rfl (Nat.le_of_ble_eq_true rfl) rfl rfl (by kernel_rfl) ?_
    refine WL.pure (v := .agg #[.slice none 0 0, .slice none 0 0, .slice none 0 0, .slice none 0 0, vI 0, .bool false]) 13 rfl (Nat.le_of_ble_eq_true rfl) rfl rfl (by kernel_rfl) ?_
    refine WL.pure (v := vI er) 14 rfl (Nat.le_of_ble_eq_true rfl) rfl rfl (by kernel_rfl) ?_
    refine WL.alloc (c := #[.slice none 0 0, .slice none 0 0, .slice none 0 0, .slice none 0 0, vI 0, .bool false]) (T := 45) hH4 7 rfl (by decide) rfl rfl (fun b5 => vP b5 0) (by kernel_rfl) (fun b5 w6 hw6 => ?_)
    have hH7 : HP Tr w w6 [.cel b5 #[.slice none 0 0, .slice none 0 0, .slice none 0 0, .slice none 0 0, vI 0, .bool false] 45] := hw6.2
    have nb5 := hw6.1
    clear hw6
    refine WL.storeS (H2 := [.cel b5 #[.slice none 0 0, .slice none 0 0, .slice none 0 0, .slice none 0 0, vI 0, .bool false] 45]) 0 hH7 rfl rfl rfl rfl rfl rfl sz45 rfl (Nat.le_of_ble_eq_true rfl) rfl rfl ?_
    intro w8 hH9
    refine WL.pure (v := vI er) 8 rfl (Nat.le_of_ble_eq_true rfl) rfl rfl (by kernel_rfl) ?_
    refine WL.nil ?_
    refine WQ.then ?_
    refine hK3 _ _ _ ?_
    refine WC.sub (l' := [(0, .slice p n cap), (1, vI at'), (4, vI 0), (5, vI 0), (6, vI 0), (7, vP b5 0), (8, vI er)]) ⟨rfl, rfl, rfl, rfl, rfl, rfl, rfl, trivial⟩ ?_
    refine WC.seq fun K10 hK10 => ?_
    refine WC.block ?_
    refine WC.seq fun K11 hK11 => ?_
    refine WC.region ?_
    refine WL.pure (v := vI er) 16 rfl (Nat.le_of_ble_eq_true rfl) rfl rfl (by kernel_rfl) ?_
    refine WL.pure (v := .bool true) 17 rfl (Nat.le_of_ble_eq_true rfl) rfl rfl (x_neq rfl rfl rfl (dT (her))) ?_
    refine WL.pure (v := .bool true) 15 rfl (Nat.le_of_ble_eq_true rfl) rfl rfl (by kernel_rfl) ?_
    refine WL.nil ?_
    refine WQ.then ?_
    refine hK11 _ _ _ ?_
    refine WC.yes rfl ?_
    refine WC.seq fun K12 hK12 => ?_
    refine WC.region ?_
    refine WL.pure (v := vI er) 18 rfl (Nat.le_of_ble_eq_true rfl) rfl rfl (by kernel_rfl) ?_
    refine WL.pure (v := vI 0) 4 rfl (Nat.le_of_ble_eq_true rfl) rfl rfl (by kernel_rfl) ?_
    refine WL.pure (v := vI 0) 5 rfl (Nat.le_of_ble_eq_true rfl) rfl rfl (by kernel_rfl) ?_
    refine WL.pure (v := vI er) 6 rfl (Nat.le_of_ble_eq_true rfl) rfl rfl (by kernel_rfl) ?_
    refine WL.nil ?_
    refine WQ.then ?_
    refine hK12 _ _ _ ?_
    refine WC.sub (l' := [(0, .slice p n cap), (1, vI at'), (4, vI 0), (5, vI 0), (6, vI er), (7, vP b5 0), (8, vI er), (15, .bool true)]) ⟨rfl, rfl, rfl, rfl, rfl, rfl, rfl, rfl, trivial⟩ ?_
    refine WC.ret ?_
    refine WQ.inRet ?_
    refine WQ.thenRet ?_
    refine WQ.ret3 4 5 6 rfl rfl rfl rfl ?_
    exact ⟨by rw [mtc_bad her hE], HP.below hH9⟩
  ·
    refine ⟨_, rfl, ?_⟩
    obtain ⟨k, rfl⟩ : ∃ k : Nat, at' = (k : Int) := ⟨at'.toNat, by omega⟩
    have hH13 : HP Tr w _ [.cel g0 (irow n s.o) 3, .cel g1 (irow n s.e) 3, .cel g2 (irow n s.d) 3, .cel g3 (irow n s.t) 3] := HP.trans hH1 hb
    refine WL.pure (v := .tuple #[.agg #[vS g0 n n, vS g1 n n, vS g2 n n, vS g3 n n, vI (s.m : Int), .bool true], vI 0]) 9 rfl (Nat.le_of_ble_eq_true rfl) rfl rfl (by kernel_rfl) ?_
    refine WL.pure (v := .agg #[vS g0 n n, vS g1 n n, vS g2 n n, vS g3 n n, vI (s.m : Int), .bool true]) 13 rfl (Nat.le_of_ble_eq_true rfl) rfl rfl (by kernel_rfl) ?_
    refine WL.pure (v := vI 0) 14 rfl (Nat.le_of_ble_eq_true rfl) rfl rfl (by kernel_rfl) ?_
    refine WL.alloc (c := #[.slice none 0 0, .slice none 0 0, .slice none 0 0, .slice none 0 0, vI 0, .bool false]) (T := 45) hH13 7 rfl (by decide) rfl rfl (fun b14 => vP b14 0) (by kernel_rfl) (fun b14 w15 hw15 => ?_)
    have hH16 : HP Tr w w15 [.cel g0 (irow n s.o) 3, .cel g1 (irow n s.e) 3, .cel g2 (irow n s.d) 3, .cel g3 (irow n s.t) 3, .cel b14 #[.slice none 0 0, .slice none 0 0, .slice none 0 0, .slice none 0 0, vI 0, .bool false] 45] := hw15.2
    have nb14 := hw15.1
    clear hw15
    refine WL.storeS (H2 := [.cel g0 (irow n s.o) 3, .cel g1 (irow n s.e) 3, .cel g2 (irow n s.d) 3, .cel g3 (irow n s.t) 3, .cel b14 #[vS g0 n n, vS g1 n n, vS g2 n n, vS g3 n n, vI (s.m : Int), .bool true] 45]) 4 hH16 rfl rfl rfl rfl rfl rfl sz45 rfl (Nat.le_of_ble_eq_true rfl) rfl rfl ?_
    intro w17 hH18
    refine WL.pure (v := vI 0) 8 rfl (Nat.le_of_ble_eq_true rfl) rfl rfl (by kernel_rfl) ?_
    refine WL.nil ?_
    refine WQ.then ?_
    refine hK3 _ _ _ ?_
    refine WC.sub (l' := [(0, .slice p n cap), (1, vI (k : Int)), (4, vI 0), (5, vI 0), (6, vI 0), (7, vP b14 0), (8, vI 0)]) ⟨rfl, rfl, rfl, rfl, rfl, rfl, rfl, trivial⟩ ?_
    refine WC.seq fun K19 hK19 => ?_
    refine WC.block ?_
    refine WC.seq fun K20 hK20 => ?_
    refine WC.region ?_
    refine WL.pure (v := vI 0) 16 rfl (Nat.le_of_ble_eq_true rfl) rfl rfl (by kernel_rfl) ?_
    refine WL.pure (v := .bool false) 17 rfl (Nat.le_of_ble_eq_true rfl) rfl rfl (x_neq rfl rfl rfl (by decide)) ?_
    refine WL.pure (v := .bool false) 15 rfl (Nat.le_of_ble_eq_true rfl) rfl rfl (by kernel_rfl) ?_
    refine WL.nil ?_
    refine WQ.then ?_
    refine hK20 _ _ _ ?_
    refine WC.no rfl ?_
    refine WC.seq fun K21 hK21 => ?_
    obtain ⟨bb, oo, rfl, hrow⟩ := hIn (by omega)
    refine WC.region ?_
    refine WL.pure (v := .slice (some ⟨bb, oo, none⟩) n cap) 20 rfl (Nat.le_of_ble_eq_true rfl) rfl rfl (by kernel_rfl) ?_
    refine WL.pure (v := vI (k : Int)) 21 rfl (Nat.le_of_ble_eq_true rfl) rfl rfl (by kernel_rfl) ?_
    refine WL.pure (v := vP bb (oo + k * 3)) 22 rfl (Nat.le_of_ble_eq_true rfl) rfl rfl (x_idx (k) (oo + k * 3) rfl rfl rfl Tryd.underlying22 sz33 (by omega) (by omega) (by omega)) ?_
    refine WL.pure (v := vP bb (oo + k * 3)) 23 rfl (Nat.le_of_ble_eq_true rfl) rfl rfl (by kernel_rfl) ?_
    refine WL.pure (v := vI (c k)) 24 rfl (Nat.le_of_ble_eq_true rfl) rfl rfl (x_load rfl rfl Tryd.underlying3 rfl ((HP.oldRange hH18 trivial (hrow k (by omega))) 0 _ rfl)) ?_
    refine WL.call (f := 32) (args := #[vI (c k)]) 25 rfl (Nat.le_of_ble_eq_true rfl) rfl rfl (by kernel_rfl) ?_
    refine (Opens_any _ _).mono ?_
    rintro e w22 ⟨rfl, rfl⟩
    refine ⟨_, rfl, ?_⟩
    refine WL.pure (v := .bool (!(opn (c k)))) 26 rfl (Nat.le_of_ble_eq_true rfl) rfl rfl (by kernel_rfl) ?_
    refine WL.pure (v := .bool (!(opn (c k)))) 19 rfl (Nat.le_of_ble_eq_true rfl) rfl rfl (by kernel_rfl) ?_
    refine WL.nil ?_
    refine WQ.then ?_
    refine hK21 _ _ _ ?_
    refine WC.sub (l' := [(0, .slice (some ⟨bb, oo, none⟩) n cap), (1, vI (k : Int)), (4, vI 0), (5, vI 0), (6, vI 0), (7, vP b14 0), (8, vI 0), (15, .bool false), (19, .bool (!(opn (c k))))]) ⟨rfl, rfl, rfl, rfl, rfl, rfl, rfl, rfl, rfl, trivial⟩ ?_
    rcases Bool.eq_false_or_eq_true (opn (c k)) with hO | hO
    ·
      refine WC.no (congrArg (fun b => some (Value.bool (!b))) hO) ?_
      refine WC.skip ?_
      refine WQ.inNormal ?_
      refine WQ.then ?_
      refine hK19 _ _ _ ?_
      refine WC.seq fun K23 hK23 => ?_
      refine WC.still (by kernel_rfl) (by kernel_rfl) ?_
      have hH24 : HP Tr w _ [.cel g0 (irow n s.o) 3, .cel g1 (irow n s.e) 3, .cel g2 (irow n s.d) 3, .cel g3 (irow n s.t) 3, .cel b14 #[vS g0 n n, vS g1 n n, vS g2 n n, vS g3 n n, vI (s.m : Int), .bool true] 45] := HP.drew hH18
      refine WS.val (v := vP b14 1) 27 rfl (Nat.le_of_ble_eq_true rfl) rfl rfl (by kernel_rfl) ?_
      refine WS.val (v := vS g1 n n) 28 rfl (Nat.le_of_ble_eq_true rfl) rfl rfl (x_load rfl rfl Tryd.underlying43 rfl (HP.cell hH24 4 rfl rfl)) ?_
      refine WS.val (v := vI (k : Int)) 29 rfl (Nat.le_of_ble_eq_true rfl) rfl rfl (by kernel_rfl) ?_
      refine WS.val (v := vP g1 k) 30 rfl (Nat.le_of_ble_eq_true rfl) rfl rfl (x_idx (k) (k) rfl rfl rfl Tryd.underlying43 sz3 (by omega) (by omega) (by omega)) ?_
      refine WS.val (v := vI (s.e k)) 31 rfl (Nat.le_of_ble_eq_true rfl) rfl rfl (x_load rfl rfl Tryd.underlying3 rfl (HP.cell hH24 1 rfl (irow_get (by omega) rfl))) ?_
      refine WS.val (v := vP b14 2) 32 rfl (Nat.le_of_ble_eq_true rfl) rfl rfl (by kernel_rfl) ?_
      refine WS.val (v := vS g2 n n) 33 rfl (Nat.le_of_ble_eq_true rfl) rfl rfl (x_load rfl rfl Tryd.underlying43 rfl (HP.cell hH24 4 rfl rfl)) ?_
      refine WS.val (v := vI (k : Int)) 34 rfl (Nat.le_of_ble_eq_true rfl) rfl rfl (by kernel_rfl) ?_
      refine WS.val (v := vP g2 k) 35 rfl (Nat.le_of_ble_eq_true rfl) rfl rfl (x_idx (k) (k) rfl rfl rfl Tryd.underlying43 sz3 (by omega) (by omega) (by omega)) ?_
      refine WS.val (v := vI (s.d k)) 36 rfl (Nat.le_of_ble_eq_true rfl) rfl rfl (x_load rfl rfl Tryd.underlying3 rfl (HP.cell hH24 2 rfl (irow_get (by omega) rfl))) ?_
      refine WS.val (v := vI (s.e k)) 4 rfl (Nat.le_of_ble_eq_true rfl) rfl rfl (by kernel_rfl) ?_
      refine WS.val (v := vI (s.d k)) 5 rfl (Nat.le_of_ble_eq_true rfl) rfl rfl (by kernel_rfl) ?_
      refine WS.val (v := vI 0) 6 rfl (Nat.le_of_ble_eq_true rfl) rfl rfl (by kernel_rfl) ?_
      refine WS.nilQ ?_
      refine WQ.then ?_
      refine hK23 _ _ _ ?_
      refine WC.sub (l' := [(0, .slice (some ⟨bb, oo, none⟩) n cap), (1, vI (k : Int)), (4, vI (s.e k)), (5, vI (s.d k)), (6, vI 0), (7, vP b14 0), (8, vI 0), (15, .bool false), (19, .bool (!(opn (c k))))]) ⟨rfl, rfl, rfl, rfl, rfl, rfl, rfl, rfl, rfl, trivial⟩ ?_
      refine WC.ret ?_
      refine WQ.ret3 4 5 6 rfl rfl rfl rfl ?_
      exact ⟨by rw [mtc_ok hE hO hs], HP.below hH24⟩
    ·
      refine WC.yes (congrArg (fun b => some (Value.bool (!b))) hO) ?_
      refine WC.seq fun K25 hK25 => ?_
      refine WC.region ?_
      refine WL.pure (v := vI 0) 4 rfl (Nat.le_of_ble_eq_true rfl) rfl rfl (by kernel_rfl) ?_
      refine WL.pure (v := vI 0) 5 rfl (Nat.le_of_ble_eq_true rfl) rfl rfl (by kernel_rfl) ?_
      refine WL.pure (v := vI 3) 6 rfl (Nat.le_of_ble_eq_true rfl) rfl rfl (by kernel_rfl) ?_
      refine WL.nil ?_
      refine WQ.then ?_
      refine hK25 _ _ _ ?_
      refine WC.ret ?_
      refine WQ.inRet ?_
      refine WQ.thenRet ?_
      refine WQ.ret3 4 5 6 rfl rfl rfl rfl ?_
      exact ⟨by rw [mtc_none hE hO], HP.below hH18⟩
end Ec
end Go.Proofs.YteeljnlepbnhkaaDoor
