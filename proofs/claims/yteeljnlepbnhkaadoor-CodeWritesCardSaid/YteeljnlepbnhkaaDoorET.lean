/- The reference's Check, Match, Opener, Depth, Depths; the program's Opener, Depth, Depths. -/
import Derived.Test.YteeljnlepbnhkaaDoorER
import Derived.Test.YteeljnlepbnhkaaDoorES
import Derived.Test.YteeljnlepbnhkaaDoorEL
set_option linter.unusedVariables false
set_option linter.unusedSimpArgs false
namespace Go.Proofs.YteeljnlepbnhkaaDoor
open Go.RowKit Fw
namespace Ec
theorem allV_no {c A B : Nat → Int} {pl : Bool} {n k : Nat} (hk : k < n) (h : vld (c k) (A k) (B k) pl = false) : allV c A B pl n = false := by
  cases q : allV c A B pl n
  · rfl
  · rw [allV_spec.1 q k hk] at h; cases h
theorem chk_2 {c A B : Nat → Int} {pl : Bool} {n : Nat} (h : (120 : Int) < n) : chk c A B pl n = 2 := by unfold chk; rw [if_pos (by omega)]
theorem chk_1 {c A B : Nat → Int} {pl : Bool} {n k : Nat} (h : ¬ (120 : Int) < n) (hk : k < n) (hv : vld (c k) (A k) (B k) pl = false) : chk c A B pl n = 1 := by unfold chk; rw [if_neg (by omega), allV_no hk hv]; rfl
theorem chk_7 {c A B : Nat → Int} {pl : Bool} {n : Nat} (h : ¬ (120 : Int) < n) (hv : ∀ i, i < n → vld (c i) (A i) (B i) pl = true) (ho : okS c n = false) : chk c A B pl n = 7 := by unfold chk; rw [if_neg (by omega), allV_spec.2 hv, ho]; rfl
theorem chk_0 {c A B : Nat → Int} {pl : Bool} {n : Nat} (h : ¬ (120 : Int) < n) (hv : ∀ i, i < n → vld (c i) (A i) (B i) pl = true) (ho : okS c n = true) : chk c A B pl n = 0 := by unfold chk; rw [if_neg (by omega), allV_spec.2 hv, ho]; rfl
theorem chk_bal {c A B : Nat → Int} {pl : Bool} {n : Nat} (h : chk c A B pl n = 0) : Bal c n (shD c n) := okS_bal (chk_ok h).2.2
theorem chk_range (c A B : Nat → Int) (pl : Bool) (n : Nat) : 0 ≤ chk c A B pl n ∧ chk c A B pl n ≤ 7 := by unfold chk; split <;> (try split) <;> (try split) <;> omega
theorem idE_bad {c A B : Nat → Int} {n : Nat} {at' : Int} (h : chk c A B false n ≠ 0) : idE c A B n at' = chk c A B false n := by unfold idE; rw [if_neg h]
theorem idE_out {c A B : Nat → Int} {n : Nat} {at' : Int} (h : chk c A B false n = 0) (h2 : ¬ (0 ≤ at' ∧ at' < n)) : idE c A B n at' = 1 := by unfold idE; rw [if_pos h, if_neg h2]
theorem idE_in {c A B : Nat → Int} {n : Nat} {at' : Int} (h : chk c A B false n = 0) (h2 : 0 ≤ at' ∧ at' < n) : idE c A B n at' = 0 := by unfold idE; rw [if_pos h, if_pos h2]
/-- what Opener returns -/
def opF (c A B : Nat → Int) (n : Nat) (at' : Int) : Int := if idE c A B n at' ≠ 0 then idE c A B n at' else if (shD c n).o at'.toNat < 0 then 3 else 0
def opO (c A B : Nat → Int) (n : Nat) (at' : Int) : Int := if opF c A B n at' = 0 then (shD c n).o at'.toNat else 0
theorem op_bad {c A B : Nat → Int} {n : Nat} {at' er : Int} (h : er ≠ 0) (hE : idE c A B n at' = er) : opF c A B n at' = er ∧ opO c A B n at' = 0 := by
  have e : opF c A B n at' = er := by unfold opF; rw [hE, if_pos h]
  exact ⟨e, by unfold opO; rw [e, if_neg h]⟩
theorem op_none {c A B : Nat → Int} {n k : Nat} (hE : idE c A B n (k : Int) = 0) (h : (shD c n).o k < 0) : opF c A B n (k : Int) = 3 ∧ opO c A B n (k : Int) = 0 := by
  have e : opF c A B n (k : Int) = 3 := by unfold opF; rw [hE, if_neg (by simp), if_pos (by simpa using h)]
  exact ⟨e, by unfold opO; rw [e]; rfl⟩
theorem op_ok {c A B : Nat → Int} {n k : Nat} (hE : idE c A B n (k : Int) = 0) (h : ¬ (shD c n).o k < 0) : opF c A B n (k : Int) = 0 ∧ opO c A B n (k : Int) = (shD c n).o k := by
  have e : opF c A B n (k : Int) = 0 := by unfold opF; rw [hE, if_neg (by simp), if_neg (by simpa using h)]
  exact ⟨e, by unfold opO; rw [e, if_pos rfl]; simp⟩
/-- what Depth returns -/
def dpD (c A B : Nat → Int) (n : Nat) : Int := if chk c A B false n = 0 then ((shD c n).m : Int) else 0
theorem dp_bad {c A B : Nat → Int} {n : Nat} (h : chk c A B false n ≠ 0) : dpD c A B n = 0 := by unfold dpD; rw [if_neg h]
theorem dp_ok {c A B : Nat → Int} {n : Nat} (h : chk c A B false n = 0) : dpD c A B n = ((shD c n).m : Int) := by unfold dpD; rw [if_pos h]
/-- what Depths returns -/
def DepR (w : World) (c A B : Nat → Int) (n : Nat) (e : Ending) (w' : World) : Prop :=
  (chk c A B false n ≠ 0 ∧ e = .returned (.tuple #[.slice none 0 0, .int .i64 (chk c A B false n)]) ∧ Below w.heap.size w w') ∨
  (chk c A B false n = 0 ∧ ∃ g, e = .returned (.tuple #[vS g n n, .int .i64 0]) ∧ HP Tr w w' [.cel g (irow n (shD c n).t) 3])
theorem cnt_le (c : Nat → Int) (s : Sh) (k : Nat) : ∀ i, 0 ≤ cnt c s i k ∧ cnt c s i k ≤ i
  | 0 => ⟨Int.le_refl _, Int.le_refl _⟩
  | i + 1 => by have := cnt_le c s k i; show 0 ≤ cnt c s i k + _ ∧ cnt c s i k + _ ≤ _; split <;> omega
theorem cnt_no {c : Nat → Int} {s : Sh} {i x : Nat} (h : opn (c i) = false) : cnt c s (i + 1) x = cnt c s i x := by
  show cnt c s i x + _ = _; rw [if_neg (by rw [h]; simp)]; simp
theorem cnt_yes {c : Nat → Int} {s : Sh} {i x k : Nat} {a e : Int} (h : opn (c i) = true) (ha : a = s.e i) (he : e = s.d i) (hk : ¬ (k : Int) < e) (hk2 : (k : Int) ≤ e) :
    cnt c s i x + (if i < x ∧ x < k ∧ (x : Int) ≠ a then 1 else 0) = cnt c s (i + 1) x := by
  show _ = cnt c s i x + _
  congr 1
  by_cases q : i < x ∧ x < k ∧ (x : Int) ≠ a
  · rw [if_pos q, if_pos ⟨h, q.1, by omega, by rw [← ha]; exact q.2.2⟩]
  · rw [if_neg q, if_neg (fun r => q ⟨r.2.1, by omega, by rw [ha]; exact r.2.2.2⟩)]
theorem in_step {f g : Nat → Int} {i k : Nat} {a : Int} (hi : i < k) (hne : (k : Int) ≠ a) (h : ∀ x, f x = g x + (if i < x ∧ x < k ∧ (x : Int) ≠ a then 1 else 0)) : ∀ x, upI f k (f k + 1) x = g x + (if i < x ∧ x < k + 1 ∧ (x : Int) ≠ a then 1 else 0) := fun x => by
  unfold upI
  by_cases e : x = k
  · subst e; rw [if_pos rfl, h x, if_neg (by omega), if_pos ⟨hi, by omega, hne⟩]; omega
  · rw [if_neg e, h x]
    congr 1
    by_cases q : i < x ∧ x < k ∧ (x : Int) ≠ a
    · rw [if_pos q, if_pos ⟨q.1, by omega, q.2.2⟩]
    · rw [if_neg q, if_neg (fun r => q ⟨r.1, by omega, r.2.2⟩)]
theorem in_skip {f g : Nat → Int} {i k : Nat} {a : Int} (hne : (k : Int) = a) (h : ∀ x, f x = g x + (if i < x ∧ x < k ∧ (x : Int) ≠ a then 1 else 0)) : ∀ x, f x = g x + (if i < x ∧ x < k + 1 ∧ (x : Int) ≠ a then 1 else 0) := fun x => by
  rw [h x]
  congr 1
  by_cases q : i < x ∧ x < k ∧ (x : Int) ≠ a
  · rw [if_pos q, if_pos ⟨q.1, by omega, q.2.2⟩]
  · rw [if_neg q, if_neg (fun r => q ⟨r.1, Nat.lt_of_le_of_ne (by omega) (fun e => r.2.2 (by rw [e]; exact hne)), r.2.2⟩)]
theorem in_at {f g : Nat → Int} {i k : Nat} {a : Int} (h : ∀ x, f x = g x + (if i < x ∧ x < k ∧ (x : Int) ≠ a then 1 else 0)) : f k = g k := by rw [h k, if_neg (by omega)]; simp
theorem in_first {g : Nat → Int} {i : Nat} {a : Int} : ∀ x, g x = g x + (if i < x ∧ x < i + 1 ∧ (x : Int) ≠ a then 1 else 0) := fun x => by rw [if_neg (by omega)]; simp
set_option maxRecDepth 20000 in
set_option maxHeartbeats 4000000 in
theorem rCheck_any (p : Option Addr) (n cap : Nat) (c A B : Nat → Int) (pl : Bool) (w : World) (hIn : InC w p n c A B) (hn : n ≤ 400) :
    Calls Tryd.prog 30 #[.slice p n cap, .bool pl] w fun e w' => e = .returned (.int .i64 (chk c A B pl n)) ∧ Below w.heap.size w w' := by
  refine calls_of Tryd.func30 rfl (m := 41) rfl [(0, .slice p n cap), (1, .bool pl)] (Fr_enter [.slice p n cap, .bool pl] 41 (Nat.le_of_ble_eq_true rfl)) ?_
  have hH1 : HP Tr w w [] := HP.refl w
  refine WC.seq fun K2 hK2 => ?_
  refine WC.region ?_
  refine WL.pure (v := vI 0) 4 rfl (Nat.le_of_ble_eq_true rfl) rfl rfl (by kernel_rfl) ?_
  refine WL.nil ?_
  refine WQ.then ?_
  refine hK2 _ _ _ ?_
  refine WC.seq fun K3 hK3 => ?_
  refine WC.seq fun K4 hK4 => ?_
  refine WC.region ?_
  refine WL.pure (v := .slice p n cap) 8 rfl (Nat.le_of_ble_eq_true rfl) rfl rfl (by kernel_rfl) ?_
  refine WL.pure (v := vI (n : Int)) 9 rfl (Nat.le_of_ble_eq_true rfl) rfl rfl (by kernel_rfl) ?_
  by_cases hl : (120 : Int) < (n : Int)
  ·
    refine WL.pure (v := .bool true) 10 rfl (Nat.le_of_ble_eq_true rfl) rfl rfl (x_gtr rfl rfl rfl (dT (hl))) ?_
    refine WL.nil ?_
    refine WQ.then ?_
    refine hK4 _ _ _ ?_
    refine WC.yes rfl ?_
    refine WC.seq fun K5 hK5 => ?_
    refine WC.region ?_
    refine WL.pure (v := vI 2) 4 rfl (Nat.le_of_ble_eq_true rfl) rfl rfl (by kernel_rfl) ?_
    refine WL.nil ?_
    refine WQ.then ?_
    refine hK5 _ _ _ ?_
    refine WC.ret ?_
    refine WQ.thenRet ?_
    refine WQ.ret1 4 rfl rfl ?_
    exact ⟨by rw [show chk c A B pl n = 2 from chk_2 hl], HP.below hH1⟩
  ·
    refine WL.pure (v := .bool false) 10 rfl (Nat.le_of_ble_eq_true rfl) rfl rfl (x_gtr rfl rfl rfl (dF (hl))) ?_
    refine WL.nil ?_
    refine WQ.then ?_
    refine hK4 _ _ _ ?_
    refine WC.no rfl ?_
    refine WC.skip ?_
    refine WQ.then ?_
    refine hK3 _ _ _ ?_
    refine WC.seq fun K6 hK6 => ?_
    refine WC.seq fun K7 hK7 => ?_
    refine WC.region ?_
    refine WL.pure (v := vI 0) 5 rfl (Nat.le_of_ble_eq_true rfl) rfl rfl (by kernel_rfl) ?_
    refine WL.nil ?_
    refine WQ.then ?_
    refine hK7 _ _ _ ?_
    refine WC.block ?_
    refine WC.loop (fun kk0 ll0 ww0 => ∃ (k : Nat), ll0 = [(0, .slice p n cap), (1, .bool pl), (5, vI (k : Int))] ∧ kk0 = n - k ∧ (k ≤ n) ∧ (∀ i, i < k → vld (c i) (A i) (B i) pl = true) ∧ HP Tr w ww0 []) (n) [(0, .slice p n cap), (1, .bool pl), (5, vI 0)] ⟨rfl, rfl, rfl, trivial⟩ ⟨0, rfl, rfl, Nat.zero_le n, fun i hi => absurd hi (Nat.not_lt_zero i), hH1⟩ ?_
    rintro kk l w9 ⟨k, rfl, hkk, hk, hv, hH10⟩ K8 hK8
    refine WC.seq fun K11 hK11 => ?_
    refine WC.seq fun K12 hK12 => ?_
    refine WC.region ?_
    refine WL.pure (v := vI (k : Int)) 11 rfl (Nat.le_of_ble_eq_true rfl) rfl rfl (by kernel_rfl) ?_
    refine WL.pure (v := .slice p n cap) 12 rfl (Nat.le_of_ble_eq_true rfl) rfl rfl (by kernel_rfl) ?_
    refine WL.pure (v := vI (n : Int)) 13 rfl (Nat.le_of_ble_eq_true rfl) rfl rfl (by kernel_rfl) ?_
    by_cases hlt : (k : Int) < (n : Int)
    ·
      refine WL.pure (v := .bool true) 14 rfl (Nat.le_of_ble_eq_true rfl) rfl rfl (x_lss rfl rfl rfl (dT (hlt))) ?_
      refine WL.nil ?_
      refine WQ.then ?_
      refine hK12 _ _ _ ?_
      refine WC.yes rfl ?_
      refine WC.skip ?_
      refine WQ.then ?_
      refine hK11 _ _ _ ?_
      refine WC.seq fun K13 hK13 => ?_
      refine WC.block ?_
      refine WC.seq fun K14 hK14 => ?_
      obtain ⟨bb, oo, rfl, hrow⟩ := hIn (by omega)
      refine WC.region ?_
      refine WL.pure (v := .slice (some ⟨bb, oo, none⟩) n cap) 17 rfl (Nat.le_of_ble_eq_true rfl) rfl rfl (by kernel_rfl) ?_
      refine WL.pure (v := vI (k : Int)) 18 rfl (Nat.le_of_ble_eq_true rfl) rfl rfl (by kernel_rfl) ?_
      refine WL.pure (v := vP bb (oo + k * 3)) 19 rfl (Nat.le_of_ble_eq_true rfl) rfl rfl (x_idx (k) (oo + k * 3) rfl rfl rfl Tryd.underlying22 sz33 (by omega) (by omega) (by omega)) ?_
      refine WL.pure (v := .agg #[vI (c k), vI (A k), vI (B k)]) 20 rfl (Nat.le_of_ble_eq_true rfl) rfl rfl (x_loadS (cs := [vI (c k), vI (A k), vI (B k)]) rfl rfl Tryd.underlying33 rfl sz33 (HP.oldRange hH10 trivial (hrow k (by omega)))) ?_
      refine WL.pure (v := .bool pl) 21 rfl (Nat.le_of_ble_eq_true rfl) rfl rfl (by kernel_rfl) ?_
      refine WL.call (f := 51) (args := #[.agg #[vI (c k), vI (A k), vI (B k)], .bool pl]) 22 rfl (Nat.le_of_ble_eq_true rfl) rfl rfl (by kernel_rfl) ?_
      refine (rValid_any _ _ _ _ _).mono ?_
      rintro e w15 ⟨rfl, hb16⟩
      refine ⟨_, rfl, ?_⟩
      have hH17 : HP Tr w _ [] := HP.call hH10 hb16
      refine WL.pure (v := .bool (!(vld (c k) (A k) (B k) pl))) 23 rfl (Nat.le_of_ble_eq_true rfl) rfl rfl (by kernel_rfl) ?_
      refine WL.nil ?_
      refine WQ.then ?_
      refine hK14 _ _ _ ?_
      refine WC.sub (l' := [(0, .slice (some ⟨bb, oo, none⟩) n cap), (1, .bool pl), (5, vI (k : Int)), (14, .bool true), (23, .bool (!(vld (c k) (A k) (B k) pl)))]) ⟨rfl, rfl, rfl, rfl, rfl, trivial⟩ ?_
      rcases Bool.eq_false_or_eq_true (vld (c k) (A k) (B k) pl) with hA | hA
      ·
        refine WC.no (congrArg (fun b => some (Value.bool (!b))) hA) ?_
        refine WC.skip ?_
        refine WQ.inNormal ?_
        refine WQ.then ?_
        refine hK13 _ _ _ ?_
        refine WC.region ?_
        refine WL.pure (v := vI (k : Int)) 15 rfl (Nat.le_of_ble_eq_true rfl) rfl rfl (by kernel_rfl) ?_
        refine WL.pure (v := vI ((k + 1 : Nat) : Int)) 16 rfl (Nat.le_of_ble_eq_true rfl) rfl rfl (x_add (Z := ((k + 1 : Nat) : Int)) rfl rfl rfl (by omega) (by omega) (by omega)) ?_
        refine WL.pure (v := vI ((k + 1 : Nat) : Int)) 5 rfl (Nat.le_of_ble_eq_true rfl) rfl rfl (by kernel_rfl) ?_
        refine WL.nil ?_
        refine WQ.sub (l' := [(0, .slice (some ⟨bb, oo, none⟩) n cap), (1, .bool pl), (5, vI ((k + 1 : Nat) : Int))]) ⟨rfl, rfl, rfl, trivial⟩ ?_
        refine WQ.then (hK8 _ _ _ (by omega) ⟨k + 1, rfl, rfl, by omega, fun i hi => (Nat.lt_succ_iff_lt_or_eq.1 hi).elim (hv i) (fun e => e ▸ hA), hH17⟩)
      ·
        refine WC.yes (congrArg (fun b => some (Value.bool (!b))) hA) ?_
        refine WC.seq fun K18 hK18 => ?_
        refine WC.region ?_
        refine WL.pure (v := vI 1) 4 rfl (Nat.le_of_ble_eq_true rfl) rfl rfl (by kernel_rfl) ?_
        refine WL.nil ?_
        refine WQ.then ?_
        refine hK18 _ _ _ ?_
        refine WC.ret ?_
        refine WQ.inRet ?_
        refine WQ.thenRet ?_
        refine WQ.thenRet ?_
        refine WQ.inRet ?_
        refine WQ.thenRet ?_
        refine WQ.ret1 4 rfl rfl ?_
        exact ⟨by rw [show chk c A B pl n = 1 from chk_1 hl (by omega) hA], HP.below hH17⟩
    ·
      refine WL.pure (v := .bool false) 14 rfl (Nat.le_of_ble_eq_true rfl) rfl rfl (x_lss rfl rfl rfl (dF (hlt))) ?_
      refine WL.nil ?_
      refine WQ.then ?_
      refine hK12 _ _ _ ?_
      refine WC.no rfl ?_
      refine WC.exit ?_
      refine WQ.thenExit ?_
      refine WQ.thenExit ?_
      refine WQ.inExit ?_
      refine WQ.then ?_
      refine hK6 _ _ _ ?_
      refine WC.seq fun K19 hK19 => ?_
      refine WC.region ?_
      refine WL.pure (v := .slice p n cap) 25 rfl (Nat.le_of_ble_eq_true rfl) rfl rfl (by kernel_rfl) ?_
      refine WL.call (f := 52) (args := #[.slice p n cap, vI 0]) 26 rfl (Nat.le_of_ble_eq_true rfl) rfl rfl (by kernel_rfl) ?_
      refine (parts_any p n cap c A B hn 0 (by omega) _ (hIn.below (HP.below hH10))).mono ?_
      rintro e w20 ⟨nx, d, rfl, hPR, hb21⟩
      refine ⟨_, rfl, ?_⟩
      have hH22 : HP Tr w _ [] := HP.call hH10 hb21
      have hV : ∀ i, i < n → vld (c i) (A i) (B i) pl = true := fun i hi => hv i (by omega)
      refine WL.pure (v := .tuple #[vI (nx : Int), vI d]) 24 rfl (Nat.le_of_ble_eq_true rfl) rfl rfl (by kernel_rfl) ?_
      refine WL.pure (v := vI (nx : Int)) 27 rfl (Nat.le_of_ble_eq_true rfl) rfl rfl (by kernel_rfl) ?_
      refine WL.pure (v := vI d) 28 rfl (Nat.le_of_ble_eq_true rfl) rfl rfl (by kernel_rfl) ?_
      refine WL.pure (v := vI (nx : Int)) 6 rfl (Nat.le_of_ble_eq_true rfl) rfl rfl (by kernel_rfl) ?_
      refine WL.pure (v := vI d) 7 rfl (Nat.le_of_ble_eq_true rfl) rfl rfl (by kernel_rfl) ?_
      refine WL.nil ?_
      refine WQ.then ?_
      refine hK19 _ _ _ ?_
      refine WC.sub (l' := [(0, .slice p n cap), (1, .bool pl), (5, vI (k : Int)), (6, vI (nx : Int)), (7, vI d), (14, .bool false)]) ⟨rfl, rfl, rfl, rfl, rfl, rfl, trivial⟩ ?_
      refine WC.seq fun K23 hK23 => ?_
      refine WC.seq fun K24 hK24 => ?_
      refine WC.region ?_
      refine WL.pure (v := vI d) 29 rfl (Nat.le_of_ble_eq_true rfl) rfl rfl (by kernel_rfl) ?_
      by_cases hd : d < 0
      ·
        refine WL.pure (v := .bool true) 30 rfl (Nat.le_of_ble_eq_true rfl) rfl rfl (x_lss rfl rfl rfl (dT (hd))) ?_
        refine WL.pure (v := .bool true) 31 rfl (Nat.le_of_ble_eq_true rfl) rfl rfl (by kernel_rfl) ?_
        refine WL.pass 32 rfl (Nat.le_of_ble_eq_true rfl) rfl ?_
        refine WL.pass 33 rfl (Nat.le_of_ble_eq_true rfl) rfl ?_
        refine WL.pass 34 rfl (Nat.le_of_ble_eq_true rfl) rfl ?_
        refine WL.pass 35 rfl (Nat.le_of_ble_eq_true rfl) rfl ?_
        refine WL.pure (v := .bool true) 36 rfl (Nat.le_of_ble_eq_true rfl) rfl rfl (by kernel_rfl) ?_
        refine WL.pure (v := .bool true) 37 rfl (Nat.le_of_ble_eq_true rfl) rfl rfl (by kernel_rfl) ?_
        refine WL.pass 38 rfl (Nat.le_of_ble_eq_true rfl) rfl ?_
        refine WL.pass 39 rfl (Nat.le_of_ble_eq_true rfl) rfl ?_
        refine WL.pure (v := .bool true) 40 rfl (Nat.le_of_ble_eq_true rfl) rfl rfl (by kernel_rfl) ?_
        refine WL.nil ?_
        refine WQ.then ?_
        refine hK24 _ _ _ ?_
        refine WC.sub (l' := [(0, .slice p n cap), (1, .bool pl), (5, vI (k : Int)), (6, vI (nx : Int)), (7, vI d), (14, .bool false), (40, .bool true)]) ⟨rfl, rfl, rfl, rfl, rfl, rfl, rfl, trivial⟩ ?_
        refine WC.yes rfl ?_
        refine WC.seq fun K25 hK25 => ?_
        refine WC.region ?_
        refine WL.pure (v := vI 7) 4 rfl (Nat.le_of_ble_eq_true rfl) rfl rfl (by kernel_rfl) ?_
        refine WL.nil ?_
        refine WQ.then ?_
        refine hK25 _ _ _ ?_
        refine WC.ret ?_
        refine WQ.thenRet ?_
        refine WQ.ret1 4 rfl rfl ?_
        exact ⟨by rw [show chk c A B pl n = 7 from chk_7 hl hV (PR_fail1 hPR hd)], HP.below hH22⟩
      ·
        refine WL.pure (v := .bool false) 30 rfl (Nat.le_of_ble_eq_true rfl) rfl rfl (x_lss rfl rfl rfl (dF (hd))) ?_
        refine WL.pure (v := .bool false) 31 rfl (Nat.le_of_ble_eq_true rfl) rfl rfl (by kernel_rfl) ?_
        refine WL.pure (v := vI (nx : Int)) 32 rfl (Nat.le_of_ble_eq_true rfl) rfl rfl (by kernel_rfl) ?_
        refine WL.pure (v := .slice p n cap) 33 rfl (Nat.le_of_ble_eq_true rfl) rfl rfl (by kernel_rfl) ?_
        refine WL.pure (v := vI (n : Int)) 34 rfl (Nat.le_of_ble_eq_true rfl) rfl rfl (by kernel_rfl) ?_
        by_cases hnx : (nx : Int) < (n : Int)
        ·
          refine WL.pure (v := .bool true) 35 rfl (Nat.le_of_ble_eq_true rfl) rfl rfl (x_lss rfl rfl rfl (dT (hnx))) ?_
          refine WL.pure (v := .bool true) 36 rfl (Nat.le_of_ble_eq_true rfl) rfl rfl (by kernel_rfl) ?_
          refine WL.pure (v := .bool true) 37 rfl (Nat.le_of_ble_eq_true rfl) rfl rfl (by kernel_rfl) ?_
          refine WL.pass 38 rfl (Nat.le_of_ble_eq_true rfl) rfl ?_
          refine WL.pass 39 rfl (Nat.le_of_ble_eq_true rfl) rfl ?_
          refine WL.pure (v := .bool true) 40 rfl (Nat.le_of_ble_eq_true rfl) rfl rfl (by kernel_rfl) ?_
          refine WL.nil ?_
          refine WQ.then ?_
          refine hK24 _ _ _ ?_
          refine WC.sub (l' := [(0, .slice p n cap), (1, .bool pl), (5, vI (k : Int)), (6, vI (nx : Int)), (7, vI d), (14, .bool false), (40, .bool true)]) ⟨rfl, rfl, rfl, rfl, rfl, rfl, rfl, trivial⟩ ?_
          refine WC.yes rfl ?_
          refine WC.seq fun K26 hK26 => ?_
          refine WC.region ?_
          refine WL.pure (v := vI 7) 4 rfl (Nat.le_of_ble_eq_true rfl) rfl rfl (by kernel_rfl) ?_
          refine WL.nil ?_
          refine WQ.then ?_
          refine hK26 _ _ _ ?_
          refine WC.ret ?_
          refine WQ.thenRet ?_
          refine WQ.ret1 4 rfl rfl ?_
          exact ⟨by rw [show chk c A B pl n = 7 from chk_7 hl hV (PR_fail2 hPR hd hnx)], HP.below hH22⟩
        ·
          refine WL.pure (v := .bool false) 35 rfl (Nat.le_of_ble_eq_true rfl) rfl rfl (x_lss rfl rfl rfl (dF (hnx))) ?_
          refine WL.pure (v := .bool false) 36 rfl (Nat.le_of_ble_eq_true rfl) rfl rfl (by kernel_rfl) ?_
          refine WL.pure (v := .bool false) 37 rfl (Nat.le_of_ble_eq_true rfl) rfl rfl (by kernel_rfl) ?_
          refine WL.pure (v := vI d) 38 rfl (Nat.le_of_ble_eq_true rfl) rfl rfl (by kernel_rfl) ?_
          by_cases hm : (6 : Int) < d
          ·
            refine WL.pure (v := .bool true) 39 rfl (Nat.le_of_ble_eq_true rfl) rfl rfl (x_gtr rfl rfl rfl (dT (hm))) ?_
            refine WL.pure (v := .bool true) 40 rfl (Nat.le_of_ble_eq_true rfl) rfl rfl (by kernel_rfl) ?_
            refine WL.nil ?_
            refine WQ.then ?_
            refine hK24 _ _ _ ?_
            refine WC.sub (l' := [(0, .slice p n cap), (1, .bool pl), (5, vI (k : Int)), (6, vI (nx : Int)), (7, vI d), (14, .bool false), (40, .bool true)]) ⟨rfl, rfl, rfl, rfl, rfl, rfl, rfl, trivial⟩ ?_
            refine WC.yes rfl ?_
            refine WC.seq fun K27 hK27 => ?_
            refine WC.region ?_
            refine WL.pure (v := vI 7) 4 rfl (Nat.le_of_ble_eq_true rfl) rfl rfl (by kernel_rfl) ?_
            refine WL.nil ?_
            refine WQ.then ?_
            refine hK27 _ _ _ ?_
            refine WC.ret ?_
            refine WQ.thenRet ?_
            refine WQ.ret1 4 rfl rfl ?_
            exact ⟨by rw [show chk c A B pl n = 7 from chk_7 hl hV (PR_deep hPR hd hnx hm)], HP.below hH22⟩
          ·
            refine WL.pure (v := .bool false) 39 rfl (Nat.le_of_ble_eq_true rfl) rfl rfl (x_gtr rfl rfl rfl (dF (hm))) ?_
            refine WL.pure (v := .bool false) 40 rfl (Nat.le_of_ble_eq_true rfl) rfl rfl (by kernel_rfl) ?_
            refine WL.nil ?_
            refine WQ.then ?_
            refine hK24 _ _ _ ?_
            refine WC.sub (l' := [(0, .slice p n cap), (1, .bool pl), (5, vI (k : Int)), (6, vI (nx : Int)), (7, vI d), (14, .bool false), (40, .bool false)]) ⟨rfl, rfl, rfl, rfl, rfl, rfl, rfl, trivial⟩ ?_
            refine WC.no rfl ?_
            refine WC.skip ?_
            refine WQ.then ?_
            refine hK23 _ _ _ ?_
            refine WC.seq fun K28 hK28 => ?_
            refine WC.region ?_
            refine WL.pure (v := vI 0) 4 rfl (Nat.le_of_ble_eq_true rfl) rfl rfl (by kernel_rfl) ?_
            refine WL.nil ?_
            refine WQ.then ?_
            refine hK28 _ _ _ ?_
            refine WC.ret ?_
            refine WQ.ret1 4 rfl rfl ?_
            exact ⟨by rw [show chk c A B pl n = 0 from chk_0 hl hV (PR_good hPR hd hnx hm)], HP.below hH22⟩
set_option maxRecDepth 20000 in
set_option maxHeartbeats 4000000 in
theorem rDepths_any (p : Option Addr) (n cap : Nat) (c A B : Nat → Int) (w : World) (hIn : InC w p n c A B) (hn : n ≤ 400) :
    Calls Tryd.prog 20 #[.slice p n cap] w (DepR w c A B n) := by
  refine calls_of Tryd.func20 rfl (m := 56) rfl [(0, .slice p n cap)] (Fr_enter [.slice p n cap] 56 (Nat.le_of_ble_eq_true rfl)) ?_
  have hH1 : HP Tr w w [] := HP.refl w
  refine WC.seq fun K2 hK2 => ?_
  refine WC.region ?_
  refine WL.pure (v := .slice none 0 0) 2 rfl (Nat.le_of_ble_eq_true rfl) rfl rfl (by kernel_rfl) ?_
  refine WL.pure (v := vI 0) 3 rfl (Nat.le_of_ble_eq_true rfl) rfl rfl (by kernel_rfl) ?_
  refine WL.nil ?_
  refine WQ.then ?_
  refine hK2 _ _ _ ?_
  refine WC.seq fun K3 hK3 => ?_
  refine WC.region ?_
  refine WL.pure (v := .slice p n cap) 11 rfl (Nat.le_of_ble_eq_true rfl) rfl rfl (by kernel_rfl) ?_
  refine WL.call (f := 30) (args := #[.slice p n cap, .bool false]) 12 rfl (Nat.le_of_ble_eq_true rfl) rfl rfl (by kernel_rfl) ?_
  refine (rCheck_any _ _ _ c A B false _ (hIn.below (HP.below hH1)) hn).mono ?_
  rintro e w4 ⟨rfl, hb5⟩
  refine ⟨_, rfl, ?_⟩
  have hH6 : HP Tr w _ [] := HP.call hH1 hb5
  refine WL.pure (v := vI (chk c A B false n)) 4 rfl (Nat.le_of_ble_eq_true rfl) rfl rfl (by kernel_rfl) ?_
  refine WL.nil ?_
  refine WQ.then ?_
  refine hK3 _ _ _ ?_
  refine WC.seq fun K7 hK7 => ?_
  refine WC.seq fun K8 hK8 => ?_
  refine WC.region ?_
  refine WL.pure (v := vI (chk c A B false n)) 13 rfl (Nat.le_of_ble_eq_true rfl) rfl rfl (by kernel_rfl) ?_
  by_cases hc : chk c A B false n ≠ 0
  ·
    refine WL.pure (v := .bool true) 14 rfl (Nat.le_of_ble_eq_true rfl) rfl rfl (x_neq rfl rfl rfl (dT (hc))) ?_
    refine WL.nil ?_
    refine WQ.then ?_
    refine hK8 _ _ _ ?_
    refine WC.yes rfl ?_
    refine WC.seq fun K9 hK9 => ?_
    refine WC.region ?_
    refine WL.pure (v := vI (chk c A B false n)) 15 rfl (Nat.le_of_ble_eq_true rfl) rfl rfl (by kernel_rfl) ?_
    refine WL.pure (v := .slice none 0 0) 2 rfl (Nat.le_of_ble_eq_true rfl) rfl rfl (by kernel_rfl) ?_
    refine WL.pure (v := vI (chk c A B false n)) 3 rfl (Nat.le_of_ble_eq_true rfl) rfl rfl (by kernel_rfl) ?_
    refine WL.nil ?_
    refine WQ.then ?_
    refine hK9 _ _ _ ?_
    refine WC.sub (l' := [(0, .slice p n cap), (2, .slice none 0 0), (3, vI (chk c A B false n)), (4, vI (chk c A B false n)), (14, .bool true)]) ⟨rfl, rfl, rfl, rfl, rfl, trivial⟩ ?_
    refine WC.ret ?_
    refine WQ.thenRet ?_
    refine WQ.ret2 2 3 rfl rfl rfl ?_
    exact .inl ⟨hc, rfl, HP.below hH6⟩
  ·
    refine WL.pure (v := .bool false) 14 rfl (Nat.le_of_ble_eq_true rfl) rfl rfl (x_neq rfl rfl rfl (dF (hc))) ?_
    refine WL.nil ?_
    refine WQ.then ?_
    refine hK8 _ _ _ ?_
    refine WC.no rfl ?_
    refine WC.skip ?_
    refine WQ.then ?_
    refine hK7 _ _ _ ?_
    refine WC.seq fun K10 hK10 => ?_
    refine WC.region ?_
    refine WL.pure (v := .slice p n cap) 16 rfl (Nat.le_of_ble_eq_true rfl) rfl rfl (by kernel_rfl) ?_
    refine WL.pure (v := vI (n : Int)) 17 rfl (Nat.le_of_ble_eq_true rfl) rfl rfl (by kernel_rfl) ?_
    refine WL.alloc (c := irow n (fun _ => 0)) (T := 3) hH6 18 rfl (by decide) rfl rfl (fun g => vS g n n) (x_makeR rfl rfl rfl (makeI2 n hn _)) (fun g w9 hw9 => ?_)
    have hH11 : HP Tr w w9 [.cel g (irow n (fun _ => 0)) 3] := hw9.2
    clear hw9
    have hB := chk_bal (show chk c A B false n = 0 by omega)
    refine WL.pure (v := vS g n n) 5 rfl (Nat.le_of_ble_eq_true rfl) rfl rfl (by kernel_rfl) ?_
    refine WL.nil ?_
    refine WQ.then ?_
    refine hK10 _ _ _ ?_
    refine WC.sub (l' := [(0, .slice p n cap), (2, .slice none 0 0), (3, vI 0), (4, vI (chk c A B false n)), (5, vS g n n), (14, .bool false)]) ⟨rfl, rfl, rfl, rfl, rfl, rfl, trivial⟩ ?_
    refine WC.seq fun K12 hK12 => ?_
    refine WC.seq fun K13 hK13 => ?_
    refine WC.region ?_
    refine WL.pure (v := vI 0) 6 rfl (Nat.le_of_ble_eq_true rfl) rfl rfl (by kernel_rfl) ?_
    refine WL.nil ?_
    refine WQ.then ?_
    refine hK13 _ _ _ ?_
    refine WC.block ?_
    refine WC.loop (fun kk0 ll0 ww0 => ∃ (i : Nat) (f : Nat → Int), ll0 = [(0, .slice p n cap), (5, vS g n n), (6, vI (i : Int))] ∧ kk0 = n - i ∧ (i ≤ n) ∧ (∀ x, f x = cnt c (shD c n) i x) ∧ HP Tr w ww0 [.cel g (irow n f) 3]) (n) [(0, .slice p n cap), (5, vS g n n), (6, vI 0)] ⟨rfl, rfl, rfl, trivial⟩ ⟨0, fun _ => 0, rfl, rfl, Nat.zero_le n, fun x => rfl, hH11⟩ ?_
    rintro kk l w15 ⟨i, f, rfl, hkk, hi, hf, hH16⟩ K14 hK14
    refine WC.seq fun K17 hK17 => ?_
    refine WC.seq fun K18 hK18 => ?_
    refine WC.region ?_
    refine WL.pure (v := vI (i : Int)) 19 rfl (Nat.le_of_ble_eq_true rfl) rfl rfl (by kernel_rfl) ?_
    refine WL.pure (v := .slice p n cap) 20 rfl (Nat.le_of_ble_eq_true rfl) rfl rfl (by kernel_rfl) ?_
    refine WL.pure (v := vI (n : Int)) 21 rfl (Nat.le_of_ble_eq_true rfl) rfl rfl (by kernel_rfl) ?_
    by_cases hlt : (i : Int) < (n : Int)
    ·
      refine WL.pure (v := .bool true) 22 rfl (Nat.le_of_ble_eq_true rfl) rfl rfl (x_lss rfl rfl rfl (dT (hlt))) ?_
      refine WL.nil ?_
      refine WQ.then ?_
      refine hK18 _ _ _ ?_
      refine WC.yes rfl ?_
      refine WC.skip ?_
      refine WQ.then ?_
      refine hK17 _ _ _ ?_
      refine WC.seq fun K19 hK19 => ?_
      refine WC.block ?_
      refine WC.seq fun K20 hK20 => ?_
      refine WC.seq fun K21 hK21 => ?_
      obtain ⟨bb, oo, rfl, hrow⟩ := hIn (by omega)
      refine WC.region ?_
      refine WL.pure (v := .slice (some ⟨bb, oo, none⟩) n cap) 25 rfl (Nat.le_of_ble_eq_true rfl) rfl rfl (by kernel_rfl) ?_
      refine WL.pure (v := vI (i : Int)) 26 rfl (Nat.le_of_ble_eq_true rfl) rfl rfl (by kernel_rfl) ?_
      refine WL.pure (v := vP bb (oo + i * 3)) 27 rfl (Nat.le_of_ble_eq_true rfl) rfl rfl (x_idx (i) (oo + i * 3) rfl rfl rfl Tryd.underlying22 sz33 (by omega) (by omega) (by omega)) ?_
      refine WL.pure (v := vP bb (oo + i * 3)) 28 rfl (Nat.le_of_ble_eq_true rfl) rfl rfl (by kernel_rfl) ?_
      refine WL.pure (v := vI (c i)) 29 rfl (Nat.le_of_ble_eq_true rfl) rfl rfl (x_load rfl rfl Tryd.underlying3 rfl ((HP.oldRange hH16 trivial (hrow i (by omega))) 0 _ rfl)) ?_
      refine WL.call (f := 43) (args := #[vI (c i)]) 30 rfl (Nat.le_of_ble_eq_true rfl) rfl rfl (by kernel_rfl) ?_
      refine (rOpens_any _ _).mono ?_
      rintro e w22 ⟨rfl, rfl⟩
      refine ⟨_, rfl, ?_⟩
      refine WL.pure (v := .bool (!(opn (c i)))) 31 rfl (Nat.le_of_ble_eq_true rfl) rfl rfl (by kernel_rfl) ?_
      refine WL.nil ?_
      refine WQ.then ?_
      refine hK21 _ _ _ ?_
      refine WC.sub (l' := [(0, .slice (some ⟨bb, oo, none⟩) n cap), (5, vS g n n), (6, vI (i : Int)), (22, .bool true), (31, .bool (!(opn (c i))))]) ⟨rfl, rfl, rfl, rfl, rfl, trivial⟩ ?_
      rcases Bool.eq_false_or_eq_true (opn (c i)) with hO | hO
      ·
        refine WC.no (congrArg (fun b => some (Value.bool (!b))) hO) ?_
        refine WC.skip ?_
        refine WQ.then ?_
        refine hK20 _ _ _ ?_
        refine WC.seq fun K23 hK23 => ?_
        refine WC.region ?_
        refine WL.pure (v := .slice (some ⟨bb, oo, none⟩) n cap) 33 rfl (Nat.le_of_ble_eq_true rfl) rfl rfl (by kernel_rfl) ?_
        refine WL.pure (v := vI (i : Int)) 34 rfl (Nat.le_of_ble_eq_true rfl) rfl rfl (by kernel_rfl) ?_
        refine WL.call (f := 44) (args := #[.slice (some ⟨bb, oo, none⟩) n cap, vI (i : Int)]) 35 rfl (Nat.le_of_ble_eq_true rfl) rfl rfl (by kernel_rfl) ?_
        refine (bracket_any (some ⟨bb, oo, none⟩) n cap c A B hn i (by omega) hO _ (hIn.below (HP.below hH16))).mono ?_
        rintro e w24 ⟨a1, e1, x1, rfl, hBR, hb25⟩
        refine ⟨_, rfl, ?_⟩
        have hH26 : HP Tr w _ [.cel g (irow n f) 3] := HP.call hH16 hb25
        obtain ⟨ha1, he1, hen⟩ := bra_final hB (show i < n by omega) hBR
        refine WL.pure (v := .tuple #[vI a1, vI (e1 : Int), vI x1]) 32 rfl (Nat.le_of_ble_eq_true rfl) rfl rfl (by kernel_rfl) ?_
        refine WL.pure (v := vI a1) 36 rfl (Nat.le_of_ble_eq_true rfl) rfl rfl (by kernel_rfl) ?_
        refine WL.pure (v := vI (e1 : Int)) 37 rfl (Nat.le_of_ble_eq_true rfl) rfl rfl (by kernel_rfl) ?_
        refine WL.pure (v := vI x1) 38 rfl (Nat.le_of_ble_eq_true rfl) rfl rfl (by kernel_rfl) ?_
        refine WL.pure (v := vI a1) 7 rfl (Nat.le_of_ble_eq_true rfl) rfl rfl (by kernel_rfl) ?_
        refine WL.pure (v := vI (e1 : Int)) 8 rfl (Nat.le_of_ble_eq_true rfl) rfl rfl (by kernel_rfl) ?_
        refine WL.pure (v := vI x1) 9 rfl (Nat.le_of_ble_eq_true rfl) rfl rfl (by kernel_rfl) ?_
        refine WL.nil ?_
        refine WQ.then ?_
        refine hK23 _ _ _ ?_
        refine WC.sub (l' := [(0, .slice (some ⟨bb, oo, none⟩) n cap), (5, vS g n n), (6, vI (i : Int)), (7, vI a1), (8, vI (e1 : Int)), (22, .bool true), (31, .bool (!(opn (c i))))]) ⟨rfl, rfl, rfl, rfl, rfl, rfl, rfl, trivial⟩ ?_
        refine WC.seq fun K27 hK27 => ?_
        refine WC.region ?_
        refine WL.pure (v := vI (i : Int)) 39 rfl (Nat.le_of_ble_eq_true rfl) rfl rfl (by kernel_rfl) ?_
        refine WL.pure (v := vI ((i + 1 : Nat) : Int)) 40 rfl (Nat.le_of_ble_eq_true rfl) rfl rfl (x_add (Z := ((i + 1 : Nat) : Int)) rfl rfl rfl (by omega) (by omega) (by omega)) ?_
        refine WL.pure (v := vI ((i + 1 : Nat) : Int)) 10 rfl (Nat.le_of_ble_eq_true rfl) rfl rfl (by kernel_rfl) ?_
        refine WL.nil ?_
        refine WQ.then ?_
        refine hK27 _ _ _ ?_
        refine WC.block ?_
        refine WC.loop (fun kk0 ll0 ww0 => ∃ (k : Nat) (f2 : Nat → Int), ll0 = [(0, .slice (some ⟨bb, oo, none⟩) n cap), (5, vS g n n), (6, vI (i : Int)), (7, vI a1), (8, vI (e1 : Int)), (10, vI (k : Int))] ∧ kk0 = e1 - k ∧ (i < k) ∧ (k ≤ e1) ∧ (∀ x, f2 x = cnt c (shD c n) i x + (if i < x ∧ x < k ∧ (x : Int) ≠ a1 then 1 else 0)) ∧ HP Tr w ww0 [.cel g (irow n f2) 3]) (e1 - (i + 1)) [(0, .slice (some ⟨bb, oo, none⟩) n cap), (5, vS g n n), (6, vI (i : Int)), (7, vI a1), (8, vI (e1 : Int)), (10, vI ((i + 1 : Nat) : Int))] ⟨rfl, rfl, rfl, rfl, rfl, rfl, trivial⟩ ⟨i + 1, f, rfl, rfl, by omega, by have := (d_range hB (show i < n by omega) hO).1; omega, fun x => by rw [hf x]; exact in_first x, hH26⟩ ?_
        rintro kk l w29 ⟨k, f2, rfl, hkk, hk1, hk2, hf2, hH30⟩ K28 hK28
        refine WC.seq fun K31 hK31 => ?_
        refine WC.seq fun K32 hK32 => ?_
        refine WC.region ?_
        refine WL.pure (v := vI (k : Int)) 41 rfl (Nat.le_of_ble_eq_true rfl) rfl rfl (by kernel_rfl) ?_
        refine WL.pure (v := vI (e1 : Int)) 42 rfl (Nat.le_of_ble_eq_true rfl) rfl rfl (by kernel_rfl) ?_
        by_cases hke : (k : Int) < (e1 : Int)
        ·
          refine WL.pure (v := .bool true) 43 rfl (Nat.le_of_ble_eq_true rfl) rfl rfl (x_lss rfl rfl rfl (dT (hke))) ?_
          refine WL.nil ?_
          refine WQ.then ?_
          refine hK32 _ _ _ ?_
          refine WC.yes rfl ?_
          refine WC.skip ?_
          refine WQ.then ?_
          refine hK31 _ _ _ ?_
          refine WC.seq fun K33 hK33 => ?_
          refine WC.block ?_
          refine WC.seq fun K34 hK34 => ?_
          refine WC.region ?_
          refine WL.pure (v := vI (k : Int)) 46 rfl (Nat.le_of_ble_eq_true rfl) rfl rfl (by kernel_rfl) ?_
          refine WL.pure (v := vI a1) 47 rfl (Nat.le_of_ble_eq_true rfl) rfl rfl (by kernel_rfl) ?_
          by_cases hne : (k : Int) ≠ a1
          ·
            refine WL.pure (v := .bool true) 48 rfl (Nat.le_of_ble_eq_true rfl) rfl rfl (x_neq rfl rfl rfl (dT (hne))) ?_
            refine WL.nil ?_
            refine WQ.then ?_
            refine hK34 _ _ _ ?_
            refine WC.yes rfl ?_
            have hfk := in_at hf2
            have hcl := cnt_le c (shD c n) k i
            refine WC.region ?_
            refine WL.pure (v := vS g n n) 49 rfl (Nat.le_of_ble_eq_true rfl) rfl rfl (by kernel_rfl) ?_
            refine WL.pure (v := vI (k : Int)) 50 rfl (Nat.le_of_ble_eq_true rfl) rfl rfl (by kernel_rfl) ?_
            refine WL.pure (v := vP g k) 51 rfl (Nat.le_of_ble_eq_true rfl) rfl rfl (x_idx (k) (k) rfl rfl rfl Tryd.underlying43 sz3 (by omega) (by omega) (by omega)) ?_
            refine WL.pure (v := vI (f2 k)) 52 rfl (Nat.le_of_ble_eq_true rfl) rfl rfl (x_load rfl rfl Tryd.underlying3 rfl (HP.cell hH30 0 rfl (irow_get (by omega) rfl))) ?_
            refine WL.pure (v := vI (f2 k + 1)) 53 rfl (Nat.le_of_ble_eq_true rfl) rfl rfl (x_add (Z := f2 k + 1) rfl rfl rfl (by omega) (by omega) (by omega)) ?_
            refine WL.pure (v := vP g k) 54 rfl (Nat.le_of_ble_eq_true rfl) rfl rfl (x_idx (k) (k) rfl rfl rfl Tryd.underlying43 sz3 (by omega) (by omega) (by omega)) ?_
            refine WL.store (H2 := [.cel g (irow n (upI f2 k (f2 k + 1))) 3]) 0 hH30 rfl rfl rfl rfl rfl rfl sz3 rfl (by simp [size_irow]; omega) (irow_set _ _ _ _) rfl ?_
            intro w35 hH36
            refine WL.nil ?_
            refine WQ.inNormal ?_
            refine WQ.then ?_
            refine hK33 _ _ _ ?_
            refine WC.sub (l' := [(0, .slice (some ⟨bb, oo, none⟩) n cap), (5, vS g n n), (6, vI (i : Int)), (7, vI a1), (8, vI (e1 : Int)), (10, vI (k : Int)), (43, .bool true), (48, .bool true)]) ⟨rfl, rfl, rfl, rfl, rfl, rfl, rfl, rfl, trivial⟩ ?_
            refine WC.region ?_
            refine WL.pure (v := vI (k : Int)) 44 rfl (Nat.le_of_ble_eq_true rfl) rfl rfl (by kernel_rfl) ?_
            refine WL.pure (v := vI ((k + 1 : Nat) : Int)) 45 rfl (Nat.le_of_ble_eq_true rfl) rfl rfl (x_add (Z := ((k + 1 : Nat) : Int)) rfl rfl rfl (by omega) (by omega) (by omega)) ?_
            refine WL.pure (v := vI ((k + 1 : Nat) : Int)) 10 rfl (Nat.le_of_ble_eq_true rfl) rfl rfl (by kernel_rfl) ?_
            refine WL.nil ?_
            refine WQ.sub (l' := [(0, .slice (some ⟨bb, oo, none⟩) n cap), (5, vS g n n), (6, vI (i : Int)), (7, vI a1), (8, vI (e1 : Int)), (10, vI ((k + 1 : Nat) : Int))]) ⟨rfl, rfl, rfl, rfl, rfl, rfl, trivial⟩ ?_
            refine WQ.then (hK28 _ _ _ (by omega) ⟨k + 1, upI f2 k (f2 k + 1), rfl, rfl, by omega, by omega, in_step (by omega) hne hf2, hH36⟩)
          ·
            refine WL.pure (v := .bool false) 48 rfl (Nat.le_of_ble_eq_true rfl) rfl rfl (x_neq rfl rfl rfl (dF (hne))) ?_
            refine WL.nil ?_
            refine WQ.then ?_
            refine hK34 _ _ _ ?_
            refine WC.no rfl ?_
            refine WC.skip ?_
            refine WQ.inNormal ?_
            refine WQ.then ?_
            refine hK33 _ _ _ ?_
            refine WC.region ?_
            refine WL.pure (v := vI (k : Int)) 44 rfl (Nat.le_of_ble_eq_true rfl) rfl rfl (by kernel_rfl) ?_
            refine WL.pure (v := vI ((k + 1 : Nat) : Int)) 45 rfl (Nat.le_of_ble_eq_true rfl) rfl rfl (x_add (Z := ((k + 1 : Nat) : Int)) rfl rfl rfl (by omega) (by omega) (by omega)) ?_
            refine WL.pure (v := vI ((k + 1 : Nat) : Int)) 10 rfl (Nat.le_of_ble_eq_true rfl) rfl rfl (by kernel_rfl) ?_
            refine WL.nil ?_
            refine WQ.sub (l' := [(0, .slice (some ⟨bb, oo, none⟩) n cap), (5, vS g n n), (6, vI (i : Int)), (7, vI a1), (8, vI (e1 : Int)), (10, vI ((k + 1 : Nat) : Int))]) ⟨rfl, rfl, rfl, rfl, rfl, rfl, trivial⟩ ?_
            refine WQ.then (hK28 _ _ _ (by omega) ⟨k + 1, f2, rfl, rfl, by omega, by omega, in_skip (by omega) hf2, hH30⟩)
        ·
          refine WL.pure (v := .bool false) 43 rfl (Nat.le_of_ble_eq_true rfl) rfl rfl (x_lss rfl rfl rfl (dF (hke))) ?_
          refine WL.nil ?_
          refine WQ.then ?_
          refine hK32 _ _ _ ?_
          refine WC.no rfl ?_
          refine WC.exit ?_
          refine WQ.thenExit ?_
          refine WQ.thenExit ?_
          refine WQ.inExit ?_
          refine WQ.inNormal ?_
          refine WQ.then ?_
          refine hK19 _ _ _ ?_
          refine WC.region ?_
          refine WL.pure (v := vI (i : Int)) 23 rfl (Nat.le_of_ble_eq_true rfl) rfl rfl (by kernel_rfl) ?_
          refine WL.pure (v := vI ((i + 1 : Nat) : Int)) 24 rfl (Nat.le_of_ble_eq_true rfl) rfl rfl (x_add (Z := ((i + 1 : Nat) : Int)) rfl rfl rfl (by omega) (by omega) (by omega)) ?_
          refine WL.pure (v := vI ((i + 1 : Nat) : Int)) 6 rfl (Nat.le_of_ble_eq_true rfl) rfl rfl (by kernel_rfl) ?_
          refine WL.nil ?_
          refine WQ.sub (l' := [(0, .slice (some ⟨bb, oo, none⟩) n cap), (5, vS g n n), (6, vI ((i + 1 : Nat) : Int))]) ⟨rfl, rfl, rfl, trivial⟩ ?_
          refine WQ.then (hK14 _ _ _ (by omega) ⟨i + 1, f2, rfl, rfl, by omega, fun x => by rw [hf2 x]; exact cnt_yes hO ha1 he1 hke (by omega), hH30⟩)
      ·
        refine WC.yes (congrArg (fun b => some (Value.bool (!b))) hO) ?_
        refine WC.exit ?_
        refine WQ.thenExit ?_
        refine WQ.inExit ?_
        refine WQ.then ?_
        refine hK19 _ _ _ ?_
        refine WC.region ?_
        refine WL.pure (v := vI (i : Int)) 23 rfl (Nat.le_of_ble_eq_true rfl) rfl rfl (by kernel_rfl) ?_
        refine WL.pure (v := vI ((i + 1 : Nat) : Int)) 24 rfl (Nat.le_of_ble_eq_true rfl) rfl rfl (x_add (Z := ((i + 1 : Nat) : Int)) rfl rfl rfl (by omega) (by omega) (by omega)) ?_
        refine WL.pure (v := vI ((i + 1 : Nat) : Int)) 6 rfl (Nat.le_of_ble_eq_true rfl) rfl rfl (by kernel_rfl) ?_
        refine WL.nil ?_
        refine WQ.sub (l' := [(0, .slice (some ⟨bb, oo, none⟩) n cap), (5, vS g n n), (6, vI ((i + 1 : Nat) : Int))]) ⟨rfl, rfl, rfl, trivial⟩ ?_
        refine WQ.then (hK14 _ _ _ (by omega) ⟨i + 1, f, rfl, rfl, by omega, fun x => by rw [hf x, cnt_no hO], hH16⟩)
    ·
      refine WL.pure (v := .bool false) 22 rfl (Nat.le_of_ble_eq_true rfl) rfl rfl (x_lss rfl rfl rfl (dF (hlt))) ?_
      refine WL.nil ?_
      refine WQ.then ?_
      refine hK18 _ _ _ ?_
      refine WC.no rfl ?_
      refine WC.exit ?_
      refine WQ.thenExit ?_
      refine WQ.thenExit ?_
      refine WQ.inExit ?_
      refine WQ.then ?_
      refine hK12 _ _ _ ?_
      refine WC.seq fun K37 hK37 => ?_
      refine WC.region ?_
      refine WL.pure (v := vS g n n) 55 rfl (Nat.le_of_ble_eq_true rfl) rfl rfl (by kernel_rfl) ?_
      refine WL.pure (v := vS g n n) 2 rfl (Nat.le_of_ble_eq_true rfl) rfl rfl (by kernel_rfl) ?_
      refine WL.pure (v := vI 0) 3 rfl (Nat.le_of_ble_eq_true rfl) rfl rfl (by kernel_rfl) ?_
      refine WL.nil ?_
      refine WQ.then ?_
      refine hK37 _ _ _ ?_
      refine WC.ret ?_
      refine WQ.ret2 2 3 rfl rfl rfl ?_
      have hft : irow n f = irow n (shD c n).t := irow_congr fun x hx => by
        obtain ⟨sx, hsx⟩ := shp_back hB.hs (Nat.le_of_lt hx)
        obtain ⟨s1, _, q, _⟩ := t_step hB hx hsx
        rw [hf x, show i = n by omega]; exact q
      exact .inr ⟨by omega, g, rfl, HP.eq hH16 (by rw [hft])⟩
end Ec
end Go.Proofs.YteeljnlepbnhkaaDoor
