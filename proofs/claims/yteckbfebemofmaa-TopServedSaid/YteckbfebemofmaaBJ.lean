/- The program's stable sort: merging in place. -/
import Derived.Test.YteckbfebemofmaaBI
set_option linter.unusedVariables false
set_option linter.unusedSimpArgs false
namespace Go.Proofs.Yteckbfebemofmaa
open Go.RowKit Fw
namespace Bs
theorem up_at (x : Nat → Int) (i j : Nat) : upI (upI x i (x j)) j (x i) j = x i := by rw [upI2]; unfold swp; rw [if_pos rfl]
theorem up_at2 {i j : Nat} (x : Nat → Int) (h : i ≠ j) : upI (upI x i (x j)) j (x i) i = x j := by rw [upI2]; unfold swp; rw [if_neg h, if_pos rfl]
theorem up_ne {i j p : Nat} (x : Nat → Int) (h : p ≠ i) (h2 : p ≠ j) : upI (upI x i (x j)) j (x i) p = x p := by rw [upI2]; unfold swp; rw [if_neg h2, if_neg h]
/-- what stood at a stands at k, what stood between them one further down -/
structure Mu (a k : Nat) (x y : Nat → Int) : Prop where
  at_ : y k = x a
  lo : ∀ p, a ≤ p → p < k → y p = x (p + 1)
  hi : ∀ p, k < p → y p = x p
theorem Mu.refl (a : Nat) (x : Nat → Int) : Mu a a x x := ⟨rfl, fun p h1 h2 => by omega, fun p h => rfl⟩
theorem Mu.step {a k : Nat} {x y : Nat → Int} (h : Mu a k x y) (hk : a ≤ k) : Mu a (k + 1) x (upI (upI y k (y (k + 1))) (k + 1) (y k)) :=
  ⟨by rw [up_at, h.at_], fun p h1 h2 => by
    by_cases e : p = k
    · rw [e, up_at2 _ (by omega), h.hi _ (by omega)]
    · rw [up_ne _ e (by omega), h.lo p h1 (by omega)], fun p h1 => by rw [up_ne _ (by omega) (by omega), h.hi p (by omega)]⟩
structure Md (m k : Nat) (x y : Nat → Int) : Prop where
  at_ : y k = x m
  hi : ∀ p, k < p → p ≤ m → y p = x (p - 1)
  lo : ∀ p, p < k → y p = x p
theorem Md.refl (m : Nat) (x : Nat → Int) : Md m m x x := ⟨rfl, fun p h1 h2 => by omega, fun p h => rfl⟩
theorem Md.step {m k : Nat} {x y : Nat → Int} (h : Md m k x y) (hk : 0 < k) (hm : k ≤ m) : Md m (k - 1) x (upI (upI y k (y (k - 1))) (k - 1) (y k)) :=
  ⟨by rw [up_at, h.at_], fun p h1 h2 => by
    by_cases e : p = k
    · rw [e, up_at2 _ (by omega), h.lo _ (by omega)]
    · rw [up_ne _ e (by omega), h.hi p (by omega) h2], fun p h1 => by rw [up_ne _ (by omega) (by omega), h.lo p (by omega)]⟩
theorem sym_up {κ : Int → Int} {a m c d h lo hi : Nat} {x : Nat → Int} (hl : Sd κ a m x) (hr : Sd κ m c x) (hb : a ≤ lo ∧ hi ≤ m ∧ m + hi ≤ d + m ∧ d + m ≤ c + lo) (h1 : lo ≤ h) (h2 : h < hi) (hn : ¬ κ (x (d + m - 1 - h)) < κ (x h)) : ∀ q, lo ≤ q → q < h + 1 → κ (x q) ≤ κ (x (d + m - 1 - q)) := fun q g1 g2 => by
  have e1 := hl q h (by omega) (by omega) (by omega)
  have e2 := hr (d + m - 1 - h) (d + m - 1 - q) (by omega) (by omega) (by omega)
  omega
theorem sym_dn {κ : Int → Int} {a m c d h lo hi : Nat} {x : Nat → Int} (hl : Sd κ a m x) (hr : Sd κ m c x) (hb : a ≤ lo ∧ hi ≤ m ∧ m + hi ≤ d + m ∧ d + m ≤ c + lo) (h1 : lo ≤ h) (h2 : h < hi) (hn : κ (x (d + m - 1 - h)) < κ (x h)) : ∀ q, h ≤ q → q < hi → κ (x (d + m - 1 - q)) < κ (x q) := fun q g1 g2 => by
  have e1 := hl h q (by omega) (by omega) (by omega)
  have e2 := hr (d + m - 1 - q) (d + m - 1 - h) (by omega) (by omega) (by omega)
  omega
theorem half_of {κ : Int → Int} {a m c d s lo hi : Nat} {x : Nat → Int} (ham : a < m) (hmc : m < c) (hd : d = (a + c) / 2) (hsr : (d < m ∧ lo = d + m - c ∧ hi = d) ∨ (¬ d < m ∧ lo = a ∧ hi = m)) (h1 : lo ≤ s) (h2 : s ≤ hi)
    (hu : ∀ q, lo ≤ q → q < s → κ (x q) ≤ κ (x (d + m - 1 - q))) (hv : ∀ q, s ≤ q → q < hi → κ (x (d + m - 1 - q)) < κ (x q)) : Half κ a m c d s x := by
  have e1 : (if m > d then d + m - c else a) = lo := by
    rcases hsr with ⟨g1, g2, g3⟩ | ⟨g1, g2, g3⟩
    · rw [if_pos g1, g2]
    · rw [if_neg g1, g2]
  have e2 : (if m > d then d else m) = hi := by
    rcases hsr with ⟨g1, g2, g3⟩ | ⟨g1, g2, g3⟩
    · rw [if_pos g1, g3]
    · rw [if_neg g1, g3]
  refine ⟨ham, hmc, hd, by rw [e1]; exact h1, by rw [e2]; exact h2, fun q => ?_, fun q => ?_⟩
  · rw [e1] at q
    have := hu (s - 1) (by omega) (by omega)
    rw [show d + m - 1 - (s - 1) = d + m - s by omega] at this
    exact this
  · rw [e2] at q
    have := hv s (Nat.le_refl _) q
    omega
/-- what symMerge does with parts of less than k -/
def SymB (g b3 nq N : Nat) (κ : Int → Int) (k : Nat) : Prop := ∀ (a m c : Nat) (x : Nat → Int) (w : World), c - a < k → OwnB w [.cel g (irow N x) 3] → KC g b3 nq κ w → (∀ i, i < N → 0 ≤ x i ∧ x i < (nq : Int)) → a < m → m < c → c ≤ N → Sd κ a m x → Sd κ m c x →
  Calls Try.prog 49 #[vS g N N, vI (a : Int), vI (m : Int), vI (c : Int), .func (.func 33) #[] #[vP b3 0]] w fun e w' => ∃ y, e = .returned (.tuple #[]) ∧ (Pm a c x y ∧ Sd κ a c y) ∧ HP (Ng g) w w' [.cel g (irow N y) 3]
theorem rot_none {a m b : Nat} {x : Nat → Int} (h : a = m ∨ m = b) (h1 : a ≤ m ∧ m ≤ b) (p : Nat) : x p = rot a m b x p := by
  unfold rot
  by_cases q : a ≤ p ∧ p < a + (b - m)
  · rw [if_pos q]; congr 1; omega
  · rw [if_neg q]
    by_cases q2 : a + (b - m) ≤ p ∧ p < b
    · rw [if_pos q2]; congr 1; omega
    · rw [if_neg q2]
theorem sd_flat {κ : Int → Int} {a s d : Nat} {y : Nat → Int} (h1 : Sd κ a s y) (h2 : Sd κ s d y) (h : s ≤ a ∨ d ≤ s) : Sd κ a d y := fun p q g1 g2 g3 => by
  rcases h with h | h
  · exact h2 p q (by omega) g2 g3
  · exact h1 p q g1 g2 (by omega)
set_option maxRecDepth 20000 in
set_option maxHeartbeats 4000000 in
theorem symM_any (g b3 nq N : Nat) (κ : Int → Int) (x : Nat → Int) (a m c : Nat) (w : World) (hB : OwnB w [.cel g (irow N x) 3]) (hK : KC g b3 nq κ w) (hN4 : N ≤ 1000) (hx : ∀ i, i < N → 0 ≤ x i ∧ x i < (nq : Int)) (ham : a < m) (hmc : m < c) (hcN : c ≤ N) (hSl : Sd κ a m x) (hSr : Sd κ m c x) (hIH : SymB g b3 nq N κ (c - a)) :
    Calls Try.prog 49 #[vS g N N, vI (a : Int), vI (m : Int), vI (c : Int), .func (.func 33) #[] #[vP b3 0]] w fun e w' => ∃ y, e = .returned (.tuple #[]) ∧ (Pm a c x y ∧ Sd κ a c y) ∧ HP (Ng g) w w' [.cel g (irow N y) 3] := by
  obtain ⟨d, hd⟩ : ∃ d, d = (a + c) / 2 := ⟨_, rfl⟩
  refine calls_of Try.func49 rfl (m := 220) rfl [(0, vS g N N), (1, vI (a : Int)), (2, vI (m : Int)), (3, vI (c : Int)), (4, .func (.func 33) #[] #[vP b3 0])] (Fr_enter [vS g N N, vI (a : Int), vI (m : Int), vI (c : Int), .func (.func 33) #[] #[vP b3 0]] 220 (Nat.le_of_ble_eq_true rfl)) ?_
  refine WC.seq fun K1 hK1 => ?_
  refine WC.seq fun K2 hK2 => ?_
  refine WC.region ?_
  refine WL.pure (v := vI (m : Int)) 25 rfl (Nat.le_of_ble_eq_true rfl) rfl rfl (by kernel_rfl) ?_
  refine WL.pure (v := vI (a : Int)) 26 rfl (Nat.le_of_ble_eq_true rfl) rfl rfl (by kernel_rfl) ?_
  refine WL.pure (v := vI ((m : Int) - (a : Int))) 27 rfl (Nat.le_of_ble_eq_true rfl) rfl rfl (x_sub (Z := (m : Int) - (a : Int)) rfl rfl rfl (by omega) (by omega) (by omega)) ?_
  by_cases hone : (m : Int) - (a : Int) = 1
  ·
    refine WL.pure (v := .bool true) 28 rfl (Nat.le_of_ble_eq_true rfl) rfl rfl (x_eql rfl rfl rfl (dT (hone))) ?_
    refine WL.nil ?_
    refine WQ.then ?_
    refine hK2 _ _ _ ?_
    refine WC.yes rfl ?_
    refine WC.seq fun K3 hK3 => ?_
    refine WC.region ?_
    refine WL.pure (v := vI (m : Int)) 29 rfl (Nat.le_of_ble_eq_true rfl) rfl rfl (by kernel_rfl) ?_
    refine WL.pure (v := vI (m : Int)) 10 rfl (Nat.le_of_ble_eq_true rfl) rfl rfl (by kernel_rfl) ?_
    refine WL.nil ?_
    refine WQ.then ?_
    refine hK3 _ _ _ ?_
    refine WC.seq fun K4 hK4 => ?_
    refine WC.region ?_
    refine WL.pure (v := vI (c : Int)) 30 rfl (Nat.le_of_ble_eq_true rfl) rfl rfl (by kernel_rfl) ?_
    refine WL.pure (v := vI (c : Int)) 11 rfl (Nat.le_of_ble_eq_true rfl) rfl rfl (by kernel_rfl) ?_
    refine WL.nil ?_
    refine WQ.then ?_
    refine hK4 _ _ _ ?_
    refine WC.seq fun K5 hK5 => ?_
    refine WC.block ?_
    refine WC.loop (fun kk0 ll0 ww0 => ∃ (i : Nat) (j : Nat), ll0 = [(0, vS g N N), (1, vI (a : Int)), (2, vI (m : Int)), (3, vI (c : Int)), (4, .func (.func 33) #[] #[vP b3 0]), (10, vI (i : Int)), (11, vI (j : Int))] ∧ kk0 = j - i ∧ (m ≤ i) ∧ (i ≤ j) ∧ (j ≤ c) ∧ (∀ p, m ≤ p → p < i → κ (x p) < κ (x a)) ∧ (∀ p, j ≤ p → p < c → κ (x a) ≤ κ (x p)) ∧ HP (Ng g) w ww0 [.cel g (irow N x) 3]) (c - m) [(0, vS g N N), (1, vI (a : Int)), (2, vI (m : Int)), (3, vI (c : Int)), (4, .func (.func 33) #[] #[vP b3 0]), (10, vI (m : Int)), (11, vI (c : Int))] ⟨rfl, rfl, rfl, rfl, rfl, rfl, rfl, trivial⟩ ⟨m, c, rfl, rfl, Nat.le_refl _, by omega, Nat.le_refl _, fun p g1 g2 => by omega, fun p g1 g2 => by omega, (ngB hB)⟩ ?_
    rintro kk l w7 ⟨i, j, rfl, hkk, him, hij, hjc, h1, h2, hH8⟩ K6 hK6
    refine WC.seq fun K9 hK9 => ?_
    refine WC.seq fun K10 hK10 => ?_
    refine WC.region ?_
    refine WL.pure (v := vI (i : Int)) 31 rfl (Nat.le_of_ble_eq_true rfl) rfl rfl (by kernel_rfl) ?_
    refine WL.pure (v := vI (j : Int)) 32 rfl (Nat.le_of_ble_eq_true rfl) rfl rfl (by kernel_rfl) ?_
    by_cases hlt : (i : Int) < (j : Int)
    ·
      refine WL.pure (v := .bool true) 33 rfl (Nat.le_of_ble_eq_true rfl) rfl rfl (x_lss rfl rfl rfl (dT (hlt))) ?_
      refine WL.nil ?_
      refine WQ.then ?_
      refine hK10 _ _ _ ?_
      refine WC.yes rfl ?_
      refine WC.skip ?_
      refine WQ.then ?_
      refine hK9 _ _ _ ?_
      refine WC.block ?_
      refine WC.seq fun K11 hK11 => ?_
      refine WC.region ?_
      refine WL.pure (v := vI (i : Int)) 34 rfl (Nat.le_of_ble_eq_true rfl) rfl rfl (by kernel_rfl) ?_
      refine WL.pure (v := vI (j : Int)) 35 rfl (Nat.le_of_ble_eq_true rfl) rfl rfl (by kernel_rfl) ?_
      refine WL.pure (v := vI ((i + j : Nat) : Int)) 36 rfl (Nat.le_of_ble_eq_true rfl) rfl rfl (x_add (Z := ((i + j : Nat) : Int)) rfl rfl rfl (by omega) (by omega) (by omega)) ?_
      refine WL.pure (v := .int .u64 ((i + j : Nat) : Int)) 37 rfl (Nat.le_of_ble_eq_true rfl) rfl rfl (x_convI rfl rfl (by kernel_rfl) (by kernel_rfl) (by kernel_rfl) (by rw [IntKind.wrap_u64]; omega)) ?_
      refine WL.pure (v := .int .u64 (((i + j : Nat) : Int) / 2)) 38 rfl (Nat.le_of_ble_eq_true rfl) rfl rfl (x_shr1 rfl rfl rfl (by decide)) ?_
      refine WL.pure (v := vI (((i + j) / 2 : Nat) : Int)) 39 rfl (Nat.le_of_ble_eq_true rfl) rfl rfl (x_convI rfl rfl (by kernel_rfl) (by kernel_rfl) (by kernel_rfl) (by rw [IntKind.wrap_i64]; omega)) ?_
      refine WL.pure (v := vI (((i + j) / 2 : Nat) : Int)) 12 rfl (Nat.le_of_ble_eq_true rfl) rfl rfl (by kernel_rfl) ?_
      refine WL.nil ?_
      refine WQ.then ?_
      refine hK11 _ _ _ ?_
      refine WC.sub (l' := [(0, vS g N N), (1, vI (a : Int)), (2, vI (m : Int)), (3, vI (c : Int)), (4, .func (.func 33) #[] #[vP b3 0]), (10, vI (i : Int)), (11, vI (j : Int)), (12, vI (((i + j) / 2 : Nat) : Int)), (33, .bool true)]) ⟨rfl, rfl, rfl, rfl, rfl, rfl, rfl, rfl, rfl, trivial⟩ ?_
      refine WC.seq fun K12 hK12 => ?_
      have hz := hx
      by_cases hcm : κ (x ((i + j) / 2)) < κ (x a)
      ·
        refine WC.confG (γ := Unit) [(0, vS g N N), (1, vI (a : Int)), (2, vI (m : Int)), (3, vI (c : Int)), (4, .func (.func 33) #[] #[vP b3 0]), (10, vI (i : Int)), (11, vI (j : Int)), (12, vI (((i + j) / 2 : Nat) : Int)), (33, .bool true)] (fun gy => [.func (.func 33) #[] #[vP b3 0], vS g N N, vI (((i + j) / 2 : Nat) : Int), vP g ((i + j) / 2), vI (x ((i + j) / 2)), vS g N N, vI (a : Int), vP g a, vI (x a), vI (cmpI (κ (x ((i + j) / 2))) (κ (x a))), .bool true]) (fun gy D wz => HP (Ng g) w wz [.cel g (irow N x) 3]) () (by kernel_rfl) ⟨rfl, rfl, rfl, rfl, rfl, rfl, rfl, rfl, rfl, trivial⟩ (by kernel_rfl) (by kernel_rfl) (by kernel_rfl) (fun _ => rfl) (by kernel_rfl) (HP.drew hH8) ?_ ?_
        · refine AllOk.cons ?o0 (AllOk.cons ?o1 (AllOk.cons ?o2 (AllOk.cons ?o3 (AllOk.cons ?o4 (AllOk.cons ?o5 (AllOk.cons ?o6 (AllOk.cons ?o7 (AllOk.cons ?o8 (AllOk.cons ?o9 (AllOk.cons ?o10 (AllOk.nil _)))))))))))
          case o0 =>
            intro gy D wz hDi hdep hclo hW
            exact .inl ⟨rfl, rfl, .inl ⟨gy, wz, fun _ _ => rfl, by kernel_rfl, hW⟩⟩
          case o1 =>
            intro gy D wz hDi hdep hclo hW
            exact .inl ⟨rfl, rfl, .inl ⟨gy, wz, fun _ _ => rfl, by kernel_rfl, hW⟩⟩
          case o2 =>
            intro gy D wz hDi hdep hclo hW
            exact .inl ⟨rfl, rfl, .inl ⟨gy, wz, fun _ _ => rfl, by kernel_rfl, hW⟩⟩
          case o3 =>
            intro gy D wz hDi hdep hclo hW
            exact .inl ⟨rfl, rfl, .inl ⟨gy, wz, fun _ _ => rfl, x_idx ((i + j) / 2) ((i + j) / 2) rfl rfl rfl Try.underlying23 sz3 (by omega) (by omega) (by omega), hW⟩⟩
          case o4 =>
            intro gy D wz hDi hdep hclo hW
            exact .inl ⟨rfl, rfl, .inl ⟨gy, wz, fun _ _ => rfl, x_load rfl rfl Try.underlying3 rfl (HP.cell hW 0 rfl (irow_get (by omega) rfl)), hW⟩⟩
          case o5 =>
            intro gy D wz hDi hdep hclo hW
            exact .inl ⟨rfl, rfl, .inl ⟨gy, wz, fun _ _ => rfl, by kernel_rfl, hW⟩⟩
          case o6 =>
            intro gy D wz hDi hdep hclo hW
            exact .inl ⟨rfl, rfl, .inl ⟨gy, wz, fun _ _ => rfl, by kernel_rfl, hW⟩⟩
          case o7 =>
            intro gy D wz hDi hdep hclo hW
            exact .inl ⟨rfl, rfl, .inl ⟨gy, wz, fun _ _ => rfl, x_idx (a) (a) rfl rfl rfl Try.underlying23 sz3 (by omega) (by omega) (by omega), hW⟩⟩
          case o8 =>
            intro gy D wz hDi hdep hclo hW
            exact .inl ⟨rfl, rfl, .inl ⟨gy, wz, fun _ _ => rfl, x_load rfl rfl Try.underlying3 rfl (HP.cell hW 0 rfl (irow_get (by omega) rfl)), hW⟩⟩
          case o9 =>
            intro gy D wz hDi hdep hclo hW
            have hW2 := hW
            exact .inl ⟨rfl, rfl, .inr (.inr ⟨33, #[vI (x ((i + j) / 2)), vI (x a), vP b3 0], by kernel_rfl, (hK _ (hW.sub (List.nil_sublist _)) _ _ (hz (((i + j) / 2)) (by omega)) (hz (a) (by omega))).mono fun e w2 h => ⟨gy, fun _ _ => rfl, h.1, HP.call hW h.2⟩⟩)⟩
          case o10 =>
            intro gy D wz hDi hdep hclo hW
            exact .inl ⟨rfl, rfl, .inl ⟨gy, wz, fun _ _ => rfl, x_lss rfl rfl rfl (dT (cmp_neg.2 hcm)), hW⟩⟩
        rintro gy D w13 hall hH14
        clear hall
        refine WQ.sub (l' := [(0, vS g N N), (1, vI (a : Int)), (2, vI (m : Int)), (3, vI (c : Int)), (4, .func (.func 33) #[] #[vP b3 0]), (10, vI (i : Int)), (11, vI (j : Int)), (12, vI (((i + j) / 2 : Nat) : Int)), (33, .bool true), (50, .bool true)]) ⟨rfl, rfl, rfl, rfl, rfl, rfl, rfl, rfl, rfl, rfl, trivial⟩ ?_
        refine WQ.then ?_
        refine hK12 _ _ _ ?_
        refine WC.yes rfl ?_
        refine WC.region ?_
        refine WL.pure (v := vI (((i + j) / 2 : Nat) : Int)) 51 rfl (Nat.le_of_ble_eq_true rfl) rfl rfl (by kernel_rfl) ?_
        refine WL.pure (v := vI (((i + j) / 2 + 1 : Nat) : Int)) 52 rfl (Nat.le_of_ble_eq_true rfl) rfl rfl (x_add (Z := (((i + j) / 2 + 1 : Nat) : Int)) rfl rfl rfl (by omega) (by omega) (by omega)) ?_
        refine WL.pure (v := vI (((i + j) / 2 + 1 : Nat) : Int)) 10 rfl (Nat.le_of_ble_eq_true rfl) rfl rfl (by kernel_rfl) ?_
        refine WL.nil ?_
        refine WQ.inNormal ?_
        refine WQ.sub (l' := [(0, vS g N N), (1, vI (a : Int)), (2, vI (m : Int)), (3, vI (c : Int)), (4, .func (.func 33) #[] #[vP b3 0]), (10, vI (((i + j) / 2 + 1 : Nat) : Int)), (11, vI (j : Int))]) ⟨rfl, rfl, rfl, rfl, rfl, rfl, rfl, trivial⟩ ?_
        refine WQ.then (hK6 _ _ _ (by omega) ⟨(i + j) / 2 + 1, j, rfl, rfl, by omega, by omega, hjc, fun p g1 g2 => Int.lt_of_le_of_lt (hSr p _ g1 (by omega) (by omega)) hcm, h2, hH14⟩)
      ·
        refine WC.confG (γ := Unit) [(0, vS g N N), (1, vI (a : Int)), (2, vI (m : Int)), (3, vI (c : Int)), (4, .func (.func 33) #[] #[vP b3 0]), (10, vI (i : Int)), (11, vI (j : Int)), (12, vI (((i + j) / 2 : Nat) : Int)), (33, .bool true)] (fun gy => [.func (.func 33) #[] #[vP b3 0], vS g N N, vI (((i + j) / 2 : Nat) : Int), vP g ((i + j) / 2), vI (x ((i + j) / 2)), vS g N N, vI (a : Int), vP g a, vI (x a), vI (cmpI (κ (x ((i + j) / 2))) (κ (x a))), .bool false]) (fun gy D wz => HP (Ng g) w wz [.cel g (irow N x) 3]) () (by kernel_rfl) ⟨rfl, rfl, rfl, rfl, rfl, rfl, rfl, rfl, rfl, trivial⟩ (by kernel_rfl) (by kernel_rfl) (by kernel_rfl) (fun _ => rfl) (by kernel_rfl) (HP.drew hH8) ?_ ?_
        · refine AllOk.cons ?o0 (AllOk.cons ?o1 (AllOk.cons ?o2 (AllOk.cons ?o3 (AllOk.cons ?o4 (AllOk.cons ?o5 (AllOk.cons ?o6 (AllOk.cons ?o7 (AllOk.cons ?o8 (AllOk.cons ?o9 (AllOk.cons ?o10 (AllOk.nil _)))))))))))
          case o0 =>
            intro gy D wz hDi hdep hclo hW
            exact .inl ⟨rfl, rfl, .inl ⟨gy, wz, fun _ _ => rfl, by kernel_rfl, hW⟩⟩
          case o1 =>
            intro gy D wz hDi hdep hclo hW
            exact .inl ⟨rfl, rfl, .inl ⟨gy, wz, fun _ _ => rfl, by kernel_rfl, hW⟩⟩
          case o2 =>
            intro gy D wz hDi hdep hclo hW
            exact .inl ⟨rfl, rfl, .inl ⟨gy, wz, fun _ _ => rfl, by kernel_rfl, hW⟩⟩
          case o3 =>
            intro gy D wz hDi hdep hclo hW
            exact .inl ⟨rfl, rfl, .inl ⟨gy, wz, fun _ _ => rfl, x_idx ((i + j) / 2) ((i + j) / 2) rfl rfl rfl Try.underlying23 sz3 (by omega) (by omega) (by omega), hW⟩⟩
          case o4 =>
            intro gy D wz hDi hdep hclo hW
            exact .inl ⟨rfl, rfl, .inl ⟨gy, wz, fun _ _ => rfl, x_load rfl rfl Try.underlying3 rfl (HP.cell hW 0 rfl (irow_get (by omega) rfl)), hW⟩⟩
          case o5 =>
            intro gy D wz hDi hdep hclo hW
            exact .inl ⟨rfl, rfl, .inl ⟨gy, wz, fun _ _ => rfl, by kernel_rfl, hW⟩⟩
          case o6 =>
            intro gy D wz hDi hdep hclo hW
            exact .inl ⟨rfl, rfl, .inl ⟨gy, wz, fun _ _ => rfl, by kernel_rfl, hW⟩⟩
          case o7 =>
            intro gy D wz hDi hdep hclo hW
            exact .inl ⟨rfl, rfl, .inl ⟨gy, wz, fun _ _ => rfl, x_idx (a) (a) rfl rfl rfl Try.underlying23 sz3 (by omega) (by omega) (by omega), hW⟩⟩
          case o8 =>
            intro gy D wz hDi hdep hclo hW
            exact .inl ⟨rfl, rfl, .inl ⟨gy, wz, fun _ _ => rfl, x_load rfl rfl Try.underlying3 rfl (HP.cell hW 0 rfl (irow_get (by omega) rfl)), hW⟩⟩
          case o9 =>
            intro gy D wz hDi hdep hclo hW
            have hW2 := hW
            exact .inl ⟨rfl, rfl, .inr (.inr ⟨33, #[vI (x ((i + j) / 2)), vI (x a), vP b3 0], by kernel_rfl, (hK _ (hW.sub (List.nil_sublist _)) _ _ (hz (((i + j) / 2)) (by omega)) (hz (a) (by omega))).mono fun e w2 h => ⟨gy, fun _ _ => rfl, h.1, HP.call hW h.2⟩⟩)⟩
          case o10 =>
            intro gy D wz hDi hdep hclo hW
            exact .inl ⟨rfl, rfl, .inl ⟨gy, wz, fun _ _ => rfl, x_lss rfl rfl rfl (dF (fun h => hcm (cmp_neg.1 h))), hW⟩⟩
        rintro gy D w15 hall hH16
        clear hall
        refine WQ.sub (l' := [(0, vS g N N), (1, vI (a : Int)), (2, vI (m : Int)), (3, vI (c : Int)), (4, .func (.func 33) #[] #[vP b3 0]), (10, vI (i : Int)), (11, vI (j : Int)), (12, vI (((i + j) / 2 : Nat) : Int)), (33, .bool true), (50, .bool false)]) ⟨rfl, rfl, rfl, rfl, rfl, rfl, rfl, rfl, rfl, rfl, trivial⟩ ?_
        refine WQ.then ?_
        refine hK12 _ _ _ ?_
        refine WC.no rfl ?_
        refine WC.region ?_
        refine WL.pure (v := vI (((i + j) / 2 : Nat) : Int)) 53 rfl (Nat.le_of_ble_eq_true rfl) rfl rfl (by kernel_rfl) ?_
        refine WL.pure (v := vI (((i + j) / 2 : Nat) : Int)) 11 rfl (Nat.le_of_ble_eq_true rfl) rfl rfl (by kernel_rfl) ?_
        refine WL.nil ?_
        refine WQ.inNormal ?_
        refine WQ.sub (l' := [(0, vS g N N), (1, vI (a : Int)), (2, vI (m : Int)), (3, vI (c : Int)), (4, .func (.func 33) #[] #[vP b3 0]), (10, vI (i : Int)), (11, vI (((i + j) / 2 : Nat) : Int))]) ⟨rfl, rfl, rfl, rfl, rfl, rfl, rfl, trivial⟩ ?_
        refine WQ.then (hK6 _ _ _ (by omega) ⟨i, (i + j) / 2, rfl, rfl, him, by omega, by omega, h1, fun p g1 g2 => Int.le_trans (Int.not_lt.1 hcm) (hSr _ p (by omega) g1 g2), hH16⟩)
    ·
      refine WL.pure (v := .bool false) 33 rfl (Nat.le_of_ble_eq_true rfl) rfl rfl (x_lss rfl rfl rfl (dF (hlt))) ?_
      refine WL.nil ?_
      refine WQ.then ?_
      refine hK10 _ _ _ ?_
      refine WC.no rfl ?_
      refine WC.exit ?_
      refine WQ.thenExit ?_
      refine WQ.thenExit ?_
      refine WQ.inExit ?_
      refine WQ.then ?_
      refine hK5 _ _ _ ?_
      refine WC.seq fun K17 hK17 => ?_
      refine WC.seq fun K18 hK18 => ?_
      refine WC.region ?_
      refine WL.pure (v := vI (a : Int)) 54 rfl (Nat.le_of_ble_eq_true rfl) rfl rfl (by kernel_rfl) ?_
      refine WL.pure (v := vI (a : Int)) 13 rfl (Nat.le_of_ble_eq_true rfl) rfl rfl (by kernel_rfl) ?_
      refine WL.nil ?_
      refine WQ.then ?_
      refine hK18 _ _ _ ?_
      refine WC.block ?_
      refine WC.loop (fun kk0 ll0 ww0 => ∃ (k : Nat) (y : Nat → Int), ll0 = [(0, vS g N N), (10, vI (i : Int)), (13, vI (k : Int))] ∧ kk0 = i - k ∧ (a ≤ k) ∧ (k ≤ i - 1) ∧ (Pm a c x y) ∧ (Mu a k x y) ∧ HP (Ng g) w ww0 [.cel g (irow N y) 3]) (i - a) [(0, vS g N N), (10, vI (i : Int)), (13, vI (a : Int))] ⟨rfl, rfl, rfl, trivial⟩ ⟨a, x, rfl, rfl, Nat.le_refl _, by omega, Pm.refl _ _ _, Mu.refl _ _, hH8⟩ ?_
      rintro kk l w20 ⟨k, y, rfl, hkk, hak, hki, hP, hM, hH21⟩ K19 hK19
      refine WC.seq fun K22 hK22 => ?_
      refine WC.seq fun K23 hK23 => ?_
      refine WC.region ?_
      refine WL.pure (v := vI (k : Int)) 55 rfl (Nat.le_of_ble_eq_true rfl) rfl rfl (by kernel_rfl) ?_
      refine WL.pure (v := vI (i : Int)) 56 rfl (Nat.le_of_ble_eq_true rfl) rfl rfl (by kernel_rfl) ?_
      refine WL.pure (v := vI ((i - 1 : Nat) : Int)) 57 rfl (Nat.le_of_ble_eq_true rfl) rfl rfl (x_sub (Z := ((i - 1 : Nat) : Int)) rfl rfl rfl (by omega) (by omega) (by omega)) ?_
      by_cases hk9 : (k : Int) < ((i - 1 : Nat) : Int)
      ·
        refine WL.pure (v := .bool true) 58 rfl (Nat.le_of_ble_eq_true rfl) rfl rfl (x_lss rfl rfl rfl (dT (hk9))) ?_
        refine WL.nil ?_
        refine WQ.then ?_
        refine hK23 _ _ _ ?_
        refine WC.yes rfl ?_
        refine WC.skip ?_
        refine WQ.then ?_
        refine hK22 _ _ _ ?_
        refine WC.seq fun K24 hK24 => ?_
        refine WC.block ?_
        refine WC.confG (γ := Unit) [(58, .bool true), (57, vI ((i - 1 : Nat) : Int)), (56, vI (i : Int)), (55, vI (k : Int)), (0, vS g N N), (10, vI (i : Int)), (13, vI (k : Int))] (fun gy => [vS g N N, vI (k : Int), vS g N N, vI (k : Int), vI ((k + 1 : Nat) : Int), vS g N N, vI (k : Int), vI ((k + 1 : Nat) : Int), vP g (k + 1), vI (y (k + 1)), vS g N N, vI (k : Int), vP g k, vI (y k), vP g k, undef, vP g (k + 1), undef]) (fun gy D wz => HP (Ng g) w wz [(bif D 17 then Ent.cel g (irow N (upI (upI y k (y (k + 1))) (k + 1) (y k))) 3 else (bif D 15 then Ent.cel g (irow N (upI y k (y (k + 1)))) 3 else Ent.cel g (irow N y) 3))]) () (by kernel_rfl) ⟨rfl, rfl, rfl, rfl, rfl, rfl, rfl, trivial⟩ (by kernel_rfl) (by kernel_rfl) (by kernel_rfl) (fun _ => rfl) (by kernel_rfl) (HP.drew hH21) ?_ ?_
        · refine AllOk.cons ?o0 (AllOk.cons ?o1 (AllOk.cons ?o2 (AllOk.cons ?o3 (AllOk.cons ?o4 (AllOk.cons ?o5 (AllOk.cons ?o6 (AllOk.cons ?o7 (AllOk.cons ?o8 (AllOk.cons ?o9 (AllOk.cons ?o10 (AllOk.cons ?o11 (AllOk.cons ?o12 (AllOk.cons ?o13 (AllOk.cons ?o14 (AllOk.cons ?o15 (AllOk.cons ?o16 (AllOk.cons ?o17 (AllOk.nil _))))))))))))))))))
          case o0 =>
            intro gy D wz hDi hdep hclo hW
            exact .inl ⟨rfl, rfl, .inl ⟨gy, wz, fun _ _ => rfl, by kernel_rfl, hW⟩⟩
          case o1 =>
            intro gy D wz hDi hdep hclo hW
            exact .inl ⟨rfl, rfl, .inl ⟨gy, wz, fun _ _ => rfl, by kernel_rfl, hW⟩⟩
          case o2 =>
            intro gy D wz hDi hdep hclo hW
            exact .inl ⟨rfl, rfl, .inl ⟨gy, wz, fun _ _ => rfl, by kernel_rfl, hW⟩⟩
          case o3 =>
            intro gy D wz hDi hdep hclo hW
            exact .inl ⟨rfl, rfl, .inl ⟨gy, wz, fun _ _ => rfl, by kernel_rfl, hW⟩⟩
          case o4 =>
            intro gy D wz hDi hdep hclo hW
            exact .inl ⟨rfl, rfl, .inl ⟨gy, wz, fun _ _ => rfl, x_add (Z := ((k + 1 : Nat) : Int)) rfl rfl rfl (by omega) (by omega) (by omega), hW⟩⟩
          case o5 =>
            intro gy D wz hDi hdep hclo hW
            exact .inl ⟨rfl, rfl, .inl ⟨gy, wz, fun _ _ => rfl, by kernel_rfl, hW⟩⟩
          case o6 =>
            intro gy D wz hDi hdep hclo hW
            exact .inl ⟨rfl, rfl, .inl ⟨gy, wz, fun _ _ => rfl, by kernel_rfl, hW⟩⟩
          case o7 =>
            intro gy D wz hDi hdep hclo hW
            exact .inl ⟨rfl, rfl, .inl ⟨gy, wz, fun _ _ => rfl, x_add (Z := ((k + 1 : Nat) : Int)) rfl rfl rfl (by omega) (by omega) (by omega), hW⟩⟩
          case o8 =>
            intro gy D wz hDi hdep hclo hW
            exact .inl ⟨rfl, rfl, .inl ⟨gy, wz, fun _ _ => rfl, x_idx (k + 1) (k + 1) rfl rfl rfl Try.underlying23 sz3 (by omega) (by omega) (by omega), hW⟩⟩
          case o9 =>
            intro gy D wz hDi hdep hclo hW
            have hW8 := hW
            have d15 : D 15 = false := by
              cases h : D 15 with
              | false => rfl
              | true => exact absurd (hclo 15 _ rfl h ⟨9, .data⟩ (by simp) rfl) (by rw [hDi]; exact Bool.false_ne_true)
            have d17 : D 17 = false := by
              cases h : D 17 with
              | false => rfl
              | true => exact absurd (hclo 17 _ rfl h ⟨9, .phase⟩ (by simp) rfl) (by rw [hDi]; exact Bool.false_ne_true)
            simp only [d15, d17, cond_true, cond_false] at hW8
            exact .inl ⟨rfl, rfl, .inl ⟨gy, wz, fun _ _ => rfl, x_load rfl rfl Try.underlying3 rfl (HP.cell hW8 0 rfl (irow_get (by omega) rfl)), hW⟩⟩
          case o10 =>
            intro gy D wz hDi hdep hclo hW
            exact .inl ⟨rfl, rfl, .inl ⟨gy, wz, fun _ _ => rfl, by kernel_rfl, hW⟩⟩
          case o11 =>
            intro gy D wz hDi hdep hclo hW
            exact .inl ⟨rfl, rfl, .inl ⟨gy, wz, fun _ _ => rfl, by kernel_rfl, hW⟩⟩
          case o12 =>
            intro gy D wz hDi hdep hclo hW
            exact .inl ⟨rfl, rfl, .inl ⟨gy, wz, fun _ _ => rfl, x_idx (k) (k) rfl rfl rfl Try.underlying23 sz3 (by omega) (by omega) (by omega), hW⟩⟩
          case o13 =>
            intro gy D wz hDi hdep hclo hW
            have hW8 := hW
            have d15 : D 15 = false := by
              cases h : D 15 with
              | false => rfl
              | true => exact absurd (hclo 15 _ rfl h ⟨13, .phase⟩ (by simp) rfl) (by rw [hDi]; exact Bool.false_ne_true)
            have d17 : D 17 = false := by
              cases h : D 17 with
              | false => rfl
              | true => exact absurd (hclo 17 _ rfl h ⟨13, .data⟩ (by simp) rfl) (by rw [hDi]; exact Bool.false_ne_true)
            simp only [d15, d17, cond_true, cond_false] at hW8
            exact .inl ⟨rfl, rfl, .inl ⟨gy, wz, fun _ _ => rfl, x_load rfl rfl Try.underlying3 rfl (HP.cell hW8 0 rfl (irow_get (by omega) rfl)), hW⟩⟩
          case o14 =>
            intro gy D wz hDi hdep hclo hW
            exact .inl ⟨rfl, rfl, .inl ⟨gy, wz, fun _ _ => rfl, x_idx (k) (k) rfl rfl rfl Try.underlying23 sz3 (by omega) (by omega) (by omega), hW⟩⟩
          case o15 =>
            intro gy D wz hDi hdep hclo hW
            have hW9 := hW
            have d17 : D 17 = false := by
              cases h : D 17 with
              | false => rfl
              | true => exact absurd (hclo 17 _ rfl h ⟨15, .chain⟩ (by simp) rfl) (by rw [hDi]; exact Bool.false_ne_true)
            simp only [hDi, d17, cond_true, cond_false] at hW9
            have h4 := HP.set (off := k) (v := vI (y (k + 1))) hW9 0 rfl
            rw [irow_set] at h4
            refine .inl ⟨rfl, rfl, .inr (.inl ⟨_, x_store rfl rfl rfl sz3 rfl (HP.cell hW9 0 rfl (irow_get (by omega) rfl)) (HP.free hW9 0 rfl), rfl, ?_⟩)⟩
            show HP (Ng g) w _ [(bif D 17 then Ent.cel g (irow N (upI (upI y k (y (k + 1))) (k + 1) (y k))) 3 else Ent.cel g (irow N (upI y k (y (k + 1)))) 3)]
            try simp only [d17, cond_true, cond_false]
            exact h4
          case o16 =>
            intro gy D wz hDi hdep hclo hW
            exact .inl ⟨rfl, rfl, .inl ⟨gy, wz, fun _ _ => rfl, x_idx (k + 1) (k + 1) rfl rfl rfl Try.underlying23 sz3 (by omega) (by omega) (by omega), hW⟩⟩
          case o17 =>
            intro gy D wz hDi hdep hclo hW
            have hW9 := hW
            have d15 : D 15 = true := hdep ⟨15, .chain⟩ (by simp) rfl
            simp only [hDi, d15, cond_true, cond_false] at hW9
            have h4 := HP.set (off := k + 1) (v := vI (y k)) hW9 0 rfl
            rw [irow_set] at h4
            refine .inl ⟨rfl, rfl, .inr (.inl ⟨_, x_store rfl rfl rfl sz3 rfl (HP.cell hW9 0 rfl (irow_get (by omega) rfl)) (HP.free hW9 0 rfl), rfl, ?_⟩)⟩
            show HP (Ng g) w _ [Ent.cel g (irow N (upI (upI y k (y (k + 1))) (k + 1) (y k))) 3]
            try simp only [d15, cond_true, cond_false]
            exact h4
        rintro gy D w25 hall hH26
        simp only [hall 15 (by kernel_rfl), hall 17 (by kernel_rfl), cond_true, List.append_nil, List.nil_append, List.cons_append] at hH26
        clear hall
        refine WQ.sub (l' := [(0, vS g N N), (10, vI (i : Int)), (13, vI (k : Int)), (58, .bool true)]) ⟨rfl, rfl, rfl, rfl, trivial⟩ ?_
        refine WQ.inNormal ?_
        refine WQ.then ?_
        refine hK24 _ _ _ ?_
        refine WC.region ?_
        refine WL.pure (v := vI (k : Int)) 59 rfl (Nat.le_of_ble_eq_true rfl) rfl rfl (by kernel_rfl) ?_
        refine WL.pure (v := vI ((k + 1 : Nat) : Int)) 60 rfl (Nat.le_of_ble_eq_true rfl) rfl rfl (x_add (Z := ((k + 1 : Nat) : Int)) rfl rfl rfl (by omega) (by omega) (by omega)) ?_
        refine WL.pure (v := vI ((k + 1 : Nat) : Int)) 13 rfl (Nat.le_of_ble_eq_true rfl) rfl rfl (by kernel_rfl) ?_
        refine WL.nil ?_
        refine WQ.sub (l' := [(0, vS g N N), (10, vI (i : Int)), (13, vI ((k + 1 : Nat) : Int))]) ⟨rfl, rfl, rfl, trivial⟩ ?_
        refine WQ.then (hK19 _ _ _ (by omega) ⟨k + 1, upI (upI y k (y (k + 1))) (k + 1) (y k), rfl, rfl, by omega, by omega, hP.trans (Pm.swap ⟨by omega, by omega⟩ ⟨by omega, by omega⟩), hM.step hak, hH26⟩)
      ·
        refine WL.pure (v := .bool false) 58 rfl (Nat.le_of_ble_eq_true rfl) rfl rfl (x_lss rfl rfl rfl (dF (hk9))) ?_
        refine WL.nil ?_
        refine WQ.then ?_
        refine hK23 _ _ _ ?_
        refine WC.no rfl ?_
        refine WC.exit ?_
        refine WQ.thenExit ?_
        refine WQ.thenExit ?_
        refine WQ.inExit ?_
        refine WQ.then ?_
        refine hK17 _ _ _ ?_
        refine WC.ret ?_
        refine WQ.thenRet ?_
        refine WQ.ret0 rfl ?_
        obtain rfl : k = i - 1 := by omega
        obtain rfl : m = a + 1 := by omega
        exact ⟨y, rfl, ⟨hP, mrg_up hSr (by omega) (by omega) (fun p g1 g2 => Int.le_of_lt (h1 p (by omega) g2)) (fun p g1 g2 => h2 p (by omega) g2) hM.lo hM.at_ (fun p g => hM.hi p (by omega))⟩, hH21⟩
  ·
    refine WL.pure (v := .bool false) 28 rfl (Nat.le_of_ble_eq_true rfl) rfl rfl (x_eql rfl rfl rfl (dF (hone))) ?_
    refine WL.nil ?_
    refine WQ.then ?_
    refine hK2 _ _ _ ?_
    refine WC.no rfl ?_
    refine WC.skip ?_
    refine WQ.then ?_
    refine hK1 _ _ _ ?_
    refine WC.seq fun K27 hK27 => ?_
    refine WC.seq fun K28 hK28 => ?_
    refine WC.region ?_
    refine WL.pure (v := vI (c : Int)) 77 rfl (Nat.le_of_ble_eq_true rfl) rfl rfl (by kernel_rfl) ?_
    refine WL.pure (v := vI (m : Int)) 78 rfl (Nat.le_of_ble_eq_true rfl) rfl rfl (by kernel_rfl) ?_
    refine WL.pure (v := vI ((c : Int) - (m : Int))) 79 rfl (Nat.le_of_ble_eq_true rfl) rfl rfl (x_sub (Z := (c : Int) - (m : Int)) rfl rfl rfl (by omega) (by omega) (by omega)) ?_
    by_cases htwo : (c : Int) - (m : Int) = 1
    ·
      refine WL.pure (v := .bool true) 80 rfl (Nat.le_of_ble_eq_true rfl) rfl rfl (x_eql rfl rfl rfl (dT (htwo))) ?_
      refine WL.nil ?_
      refine WQ.then ?_
      refine hK28 _ _ _ ?_
      refine WC.sub (l' := [(0, vS g N N), (1, vI (a : Int)), (2, vI (m : Int)), (3, vI (c : Int)), (4, .func (.func 33) #[] #[vP b3 0]), (28, .bool false), (80, .bool true)]) ⟨rfl, rfl, rfl, rfl, rfl, rfl, rfl, trivial⟩ ?_
      refine WC.yes rfl ?_
      refine WC.seq fun K29 hK29 => ?_
      refine WC.region ?_
      refine WL.pure (v := vI (a : Int)) 81 rfl (Nat.le_of_ble_eq_true rfl) rfl rfl (by kernel_rfl) ?_
      refine WL.pure (v := vI (a : Int)) 14 rfl (Nat.le_of_ble_eq_true rfl) rfl rfl (by kernel_rfl) ?_
      refine WL.nil ?_
      refine WQ.then ?_
      refine hK29 _ _ _ ?_
      refine WC.seq fun K30 hK30 => ?_
      refine WC.region ?_
      refine WL.pure (v := vI (m : Int)) 82 rfl (Nat.le_of_ble_eq_true rfl) rfl rfl (by kernel_rfl) ?_
      refine WL.pure (v := vI (m : Int)) 15 rfl (Nat.le_of_ble_eq_true rfl) rfl rfl (by kernel_rfl) ?_
      refine WL.nil ?_
      refine WQ.then ?_
      refine hK30 _ _ _ ?_
      refine WC.seq fun K31 hK31 => ?_
      refine WC.block ?_
      refine WC.loop (fun kk0 ll0 ww0 => ∃ (i : Nat) (j : Nat), ll0 = [(0, vS g N N), (1, vI (a : Int)), (2, vI (m : Int)), (3, vI (c : Int)), (4, .func (.func 33) #[] #[vP b3 0]), (14, vI (i : Int)), (15, vI (j : Int))] ∧ kk0 = j - i ∧ (a ≤ i) ∧ (i ≤ j) ∧ (j ≤ m) ∧ (∀ p, a ≤ p → p < i → κ (x p) ≤ κ (x m)) ∧ (∀ p, j ≤ p → p < m → κ (x m) ≤ κ (x p)) ∧ HP (Ng g) w ww0 [.cel g (irow N x) 3]) (m - a) [(0, vS g N N), (1, vI (a : Int)), (2, vI (m : Int)), (3, vI (c : Int)), (4, .func (.func 33) #[] #[vP b3 0]), (14, vI (a : Int)), (15, vI (m : Int))] ⟨rfl, rfl, rfl, rfl, rfl, rfl, rfl, trivial⟩ ⟨a, m, rfl, rfl, Nat.le_refl _, by omega, Nat.le_refl _, fun p g1 g2 => by omega, fun p g1 g2 => by omega, (ngB hB)⟩ ?_
      rintro kk l w33 ⟨i, j, rfl, hkk, him, hij, hjc, h1, h2, hH34⟩ K32 hK32
      refine WC.seq fun K35 hK35 => ?_
      refine WC.seq fun K36 hK36 => ?_
      refine WC.region ?_
      refine WL.pure (v := vI (i : Int)) 83 rfl (Nat.le_of_ble_eq_true rfl) rfl rfl (by kernel_rfl) ?_
      refine WL.pure (v := vI (j : Int)) 84 rfl (Nat.le_of_ble_eq_true rfl) rfl rfl (by kernel_rfl) ?_
      by_cases hlt : (i : Int) < (j : Int)
      ·
        refine WL.pure (v := .bool true) 85 rfl (Nat.le_of_ble_eq_true rfl) rfl rfl (x_lss rfl rfl rfl (dT (hlt))) ?_
        refine WL.nil ?_
        refine WQ.then ?_
        refine hK36 _ _ _ ?_
        refine WC.yes rfl ?_
        refine WC.skip ?_
        refine WQ.then ?_
        refine hK35 _ _ _ ?_
        refine WC.block ?_
        refine WC.seq fun K37 hK37 => ?_
        refine WC.region ?_
        refine WL.pure (v := vI (i : Int)) 86 rfl (Nat.le_of_ble_eq_true rfl) rfl rfl (by kernel_rfl) ?_
        refine WL.pure (v := vI (j : Int)) 87 rfl (Nat.le_of_ble_eq_true rfl) rfl rfl (by kernel_rfl) ?_
        refine WL.pure (v := vI ((i + j : Nat) : Int)) 88 rfl (Nat.le_of_ble_eq_true rfl) rfl rfl (x_add (Z := ((i + j : Nat) : Int)) rfl rfl rfl (by omega) (by omega) (by omega)) ?_
        refine WL.pure (v := .int .u64 ((i + j : Nat) : Int)) 89 rfl (Nat.le_of_ble_eq_true rfl) rfl rfl (x_convI rfl rfl (by kernel_rfl) (by kernel_rfl) (by kernel_rfl) (by rw [IntKind.wrap_u64]; omega)) ?_
        refine WL.pure (v := .int .u64 (((i + j : Nat) : Int) / 2)) 90 rfl (Nat.le_of_ble_eq_true rfl) rfl rfl (x_shr1 rfl rfl rfl (by decide)) ?_
        refine WL.pure (v := vI (((i + j) / 2 : Nat) : Int)) 91 rfl (Nat.le_of_ble_eq_true rfl) rfl rfl (x_convI rfl rfl (by kernel_rfl) (by kernel_rfl) (by kernel_rfl) (by rw [IntKind.wrap_i64]; omega)) ?_
        refine WL.pure (v := vI (((i + j) / 2 : Nat) : Int)) 16 rfl (Nat.le_of_ble_eq_true rfl) rfl rfl (by kernel_rfl) ?_
        refine WL.nil ?_
        refine WQ.then ?_
        refine hK37 _ _ _ ?_
        refine WC.sub (l' := [(0, vS g N N), (1, vI (a : Int)), (2, vI (m : Int)), (3, vI (c : Int)), (4, .func (.func 33) #[] #[vP b3 0]), (14, vI (i : Int)), (15, vI (j : Int)), (16, vI (((i + j) / 2 : Nat) : Int)), (85, .bool true)]) ⟨rfl, rfl, rfl, rfl, rfl, rfl, rfl, rfl, rfl, trivial⟩ ?_
        refine WC.seq fun K38 hK38 => ?_
        have hz := hx
        by_cases hcm : κ (x m) < κ (x ((i + j) / 2))
        ·
          refine WC.confG (γ := Unit) [(0, vS g N N), (1, vI (a : Int)), (2, vI (m : Int)), (3, vI (c : Int)), (4, .func (.func 33) #[] #[vP b3 0]), (14, vI (i : Int)), (15, vI (j : Int)), (16, vI (((i + j) / 2 : Nat) : Int)), (85, .bool true)] (fun gy => [.func (.func 33) #[] #[vP b3 0], vS g N N, vI (m : Int), vP g m, vI (x m), vS g N N, vI (((i + j) / 2 : Nat) : Int), vP g ((i + j) / 2), vI (x ((i + j) / 2)), vI (cmpI (κ (x m)) (κ (x ((i + j) / 2)))), .bool true, .bool false]) (fun gy D wz => HP (Ng g) w wz [.cel g (irow N x) 3]) () (by kernel_rfl) ⟨rfl, rfl, rfl, rfl, rfl, rfl, rfl, rfl, rfl, trivial⟩ (by kernel_rfl) (by kernel_rfl) (by kernel_rfl) (fun _ => rfl) (by kernel_rfl) (HP.drew hH34) ?_ ?_
          · refine AllOk.cons ?o0 (AllOk.cons ?o1 (AllOk.cons ?o2 (AllOk.cons ?o3 (AllOk.cons ?o4 (AllOk.cons ?o5 (AllOk.cons ?o6 (AllOk.cons ?o7 (AllOk.cons ?o8 (AllOk.cons ?o9 (AllOk.cons ?o10 (AllOk.cons ?o11 (AllOk.nil _))))))))))))
            case o0 =>
              intro gy D wz hDi hdep hclo hW
              exact .inl ⟨rfl, rfl, .inl ⟨gy, wz, fun _ _ => rfl, by kernel_rfl, hW⟩⟩
            case o1 =>
              intro gy D wz hDi hdep hclo hW
              exact .inl ⟨rfl, rfl, .inl ⟨gy, wz, fun _ _ => rfl, by kernel_rfl, hW⟩⟩
            case o2 =>
              intro gy D wz hDi hdep hclo hW
              exact .inl ⟨rfl, rfl, .inl ⟨gy, wz, fun _ _ => rfl, by kernel_rfl, hW⟩⟩
            case o3 =>
              intro gy D wz hDi hdep hclo hW
              exact .inl ⟨rfl, rfl, .inl ⟨gy, wz, fun _ _ => rfl, x_idx (m) (m) rfl rfl rfl Try.underlying23 sz3 (by omega) (by omega) (by omega), hW⟩⟩
            case o4 =>
              intro gy D wz hDi hdep hclo hW
              exact .inl ⟨rfl, rfl, .inl ⟨gy, wz, fun _ _ => rfl, x_load rfl rfl Try.underlying3 rfl (HP.cell hW 0 rfl (irow_get (by omega) rfl)), hW⟩⟩
            case o5 =>
              intro gy D wz hDi hdep hclo hW
              exact .inl ⟨rfl, rfl, .inl ⟨gy, wz, fun _ _ => rfl, by kernel_rfl, hW⟩⟩
            case o6 =>
              intro gy D wz hDi hdep hclo hW
              exact .inl ⟨rfl, rfl, .inl ⟨gy, wz, fun _ _ => rfl, by kernel_rfl, hW⟩⟩
            case o7 =>
              intro gy D wz hDi hdep hclo hW
              exact .inl ⟨rfl, rfl, .inl ⟨gy, wz, fun _ _ => rfl, x_idx ((i + j) / 2) ((i + j) / 2) rfl rfl rfl Try.underlying23 sz3 (by omega) (by omega) (by omega), hW⟩⟩
            case o8 =>
              intro gy D wz hDi hdep hclo hW
              exact .inl ⟨rfl, rfl, .inl ⟨gy, wz, fun _ _ => rfl, x_load rfl rfl Try.underlying3 rfl (HP.cell hW 0 rfl (irow_get (by omega) rfl)), hW⟩⟩
            case o9 =>
              intro gy D wz hDi hdep hclo hW
              have hW2 := hW
              exact .inl ⟨rfl, rfl, .inr (.inr ⟨33, #[vI (x m), vI (x ((i + j) / 2)), vP b3 0], by kernel_rfl, (hK _ (hW.sub (List.nil_sublist _)) _ _ (hz (m) (by omega)) (hz (((i + j) / 2)) (by omega))).mono fun e w2 h => ⟨gy, fun _ _ => rfl, h.1, HP.call hW h.2⟩⟩)⟩
            case o10 =>
              intro gy D wz hDi hdep hclo hW
              exact .inl ⟨rfl, rfl, .inl ⟨gy, wz, fun _ _ => rfl, x_lss rfl rfl rfl (dT (cmp_neg.2 hcm)), hW⟩⟩
            case o11 =>
              intro gy D wz hDi hdep hclo hW
              exact .inl ⟨rfl, rfl, .inl ⟨gy, wz, fun _ _ => rfl, by kernel_rfl, hW⟩⟩
          rintro gy D w39 hall hH40
          clear hall
          refine WQ.sub (l' := [(0, vS g N N), (1, vI (a : Int)), (2, vI (m : Int)), (3, vI (c : Int)), (4, .func (.func 33) #[] #[vP b3 0]), (14, vI (i : Int)), (15, vI (j : Int)), (16, vI (((i + j) / 2 : Nat) : Int)), (85, .bool true), (103, .bool false)]) ⟨rfl, rfl, rfl, rfl, rfl, rfl, rfl, rfl, rfl, rfl, trivial⟩ ?_
          refine WQ.then ?_
          refine hK38 _ _ _ ?_
          refine WC.no rfl ?_
          refine WC.region ?_
          refine WL.pure (v := vI (((i + j) / 2 : Nat) : Int)) 106 rfl (Nat.le_of_ble_eq_true rfl) rfl rfl (by kernel_rfl) ?_
          refine WL.pure (v := vI (((i + j) / 2 : Nat) : Int)) 15 rfl (Nat.le_of_ble_eq_true rfl) rfl rfl (by kernel_rfl) ?_
          refine WL.nil ?_
          refine WQ.inNormal ?_
          refine WQ.sub (l' := [(0, vS g N N), (1, vI (a : Int)), (2, vI (m : Int)), (3, vI (c : Int)), (4, .func (.func 33) #[] #[vP b3 0]), (14, vI (i : Int)), (15, vI (((i + j) / 2 : Nat) : Int))]) ⟨rfl, rfl, rfl, rfl, rfl, rfl, rfl, trivial⟩ ?_
          refine WQ.then (hK32 _ _ _ (by omega) ⟨i, (i + j) / 2, rfl, rfl, him, by omega, by omega, h1, fun p g1 g2 => Int.le_trans (Int.le_of_lt hcm) (hSl _ p (by omega) g1 g2), hH40⟩)
        ·
          refine WC.confG (γ := Unit) [(0, vS g N N), (1, vI (a : Int)), (2, vI (m : Int)), (3, vI (c : Int)), (4, .func (.func 33) #[] #[vP b3 0]), (14, vI (i : Int)), (15, vI (j : Int)), (16, vI (((i + j) / 2 : Nat) : Int)), (85, .bool true)] (fun gy => [.func (.func 33) #[] #[vP b3 0], vS g N N, vI (m : Int), vP g m, vI (x m), vS g N N, vI (((i + j) / 2 : Nat) : Int), vP g ((i + j) / 2), vI (x ((i + j) / 2)), vI (cmpI (κ (x m)) (κ (x ((i + j) / 2)))), .bool false, .bool true]) (fun gy D wz => HP (Ng g) w wz [.cel g (irow N x) 3]) () (by kernel_rfl) ⟨rfl, rfl, rfl, rfl, rfl, rfl, rfl, rfl, rfl, trivial⟩ (by kernel_rfl) (by kernel_rfl) (by kernel_rfl) (fun _ => rfl) (by kernel_rfl) (HP.drew hH34) ?_ ?_
          · refine AllOk.cons ?o0 (AllOk.cons ?o1 (AllOk.cons ?o2 (AllOk.cons ?o3 (AllOk.cons ?o4 (AllOk.cons ?o5 (AllOk.cons ?o6 (AllOk.cons ?o7 (AllOk.cons ?o8 (AllOk.cons ?o9 (AllOk.cons ?o10 (AllOk.cons ?o11 (AllOk.nil _))))))))))))
            case o0 =>
              intro gy D wz hDi hdep hclo hW
              exact .inl ⟨rfl, rfl, .inl ⟨gy, wz, fun _ _ => rfl, by kernel_rfl, hW⟩⟩
            case o1 =>
              intro gy D wz hDi hdep hclo hW
              exact .inl ⟨rfl, rfl, .inl ⟨gy, wz, fun _ _ => rfl, by kernel_rfl, hW⟩⟩
            case o2 =>
              intro gy D wz hDi hdep hclo hW
              exact .inl ⟨rfl, rfl, .inl ⟨gy, wz, fun _ _ => rfl, by kernel_rfl, hW⟩⟩
            case o3 =>
              intro gy D wz hDi hdep hclo hW
              exact .inl ⟨rfl, rfl, .inl ⟨gy, wz, fun _ _ => rfl, x_idx (m) (m) rfl rfl rfl Try.underlying23 sz3 (by omega) (by omega) (by omega), hW⟩⟩
            case o4 =>
              intro gy D wz hDi hdep hclo hW
              exact .inl ⟨rfl, rfl, .inl ⟨gy, wz, fun _ _ => rfl, x_load rfl rfl Try.underlying3 rfl (HP.cell hW 0 rfl (irow_get (by omega) rfl)), hW⟩⟩
            case o5 =>
              intro gy D wz hDi hdep hclo hW
              exact .inl ⟨rfl, rfl, .inl ⟨gy, wz, fun _ _ => rfl, by kernel_rfl, hW⟩⟩
            case o6 =>
              intro gy D wz hDi hdep hclo hW
              exact .inl ⟨rfl, rfl, .inl ⟨gy, wz, fun _ _ => rfl, by kernel_rfl, hW⟩⟩
            case o7 =>
              intro gy D wz hDi hdep hclo hW
              exact .inl ⟨rfl, rfl, .inl ⟨gy, wz, fun _ _ => rfl, x_idx ((i + j) / 2) ((i + j) / 2) rfl rfl rfl Try.underlying23 sz3 (by omega) (by omega) (by omega), hW⟩⟩
            case o8 =>
              intro gy D wz hDi hdep hclo hW
              exact .inl ⟨rfl, rfl, .inl ⟨gy, wz, fun _ _ => rfl, x_load rfl rfl Try.underlying3 rfl (HP.cell hW 0 rfl (irow_get (by omega) rfl)), hW⟩⟩
            case o9 =>
              intro gy D wz hDi hdep hclo hW
              have hW2 := hW
              exact .inl ⟨rfl, rfl, .inr (.inr ⟨33, #[vI (x m), vI (x ((i + j) / 2)), vP b3 0], by kernel_rfl, (hK _ (hW.sub (List.nil_sublist _)) _ _ (hz (m) (by omega)) (hz (((i + j) / 2)) (by omega))).mono fun e w2 h => ⟨gy, fun _ _ => rfl, h.1, HP.call hW h.2⟩⟩)⟩
            case o10 =>
              intro gy D wz hDi hdep hclo hW
              exact .inl ⟨rfl, rfl, .inl ⟨gy, wz, fun _ _ => rfl, x_lss rfl rfl rfl (dF (fun h => hcm (cmp_neg.1 h))), hW⟩⟩
            case o11 =>
              intro gy D wz hDi hdep hclo hW
              exact .inl ⟨rfl, rfl, .inl ⟨gy, wz, fun _ _ => rfl, by kernel_rfl, hW⟩⟩
          rintro gy D w41 hall hH42
          clear hall
          refine WQ.sub (l' := [(0, vS g N N), (1, vI (a : Int)), (2, vI (m : Int)), (3, vI (c : Int)), (4, .func (.func 33) #[] #[vP b3 0]), (14, vI (i : Int)), (15, vI (j : Int)), (16, vI (((i + j) / 2 : Nat) : Int)), (85, .bool true), (103, .bool true)]) ⟨rfl, rfl, rfl, rfl, rfl, rfl, rfl, rfl, rfl, rfl, trivial⟩ ?_
          refine WQ.then ?_
          refine hK38 _ _ _ ?_
          refine WC.yes rfl ?_
          refine WC.region ?_
          refine WL.pure (v := vI (((i + j) / 2 : Nat) : Int)) 104 rfl (Nat.le_of_ble_eq_true rfl) rfl rfl (by kernel_rfl) ?_
          refine WL.pure (v := vI (((i + j) / 2 + 1 : Nat) : Int)) 105 rfl (Nat.le_of_ble_eq_true rfl) rfl rfl (x_add (Z := (((i + j) / 2 + 1 : Nat) : Int)) rfl rfl rfl (by omega) (by omega) (by omega)) ?_
          refine WL.pure (v := vI (((i + j) / 2 + 1 : Nat) : Int)) 14 rfl (Nat.le_of_ble_eq_true rfl) rfl rfl (by kernel_rfl) ?_
          refine WL.nil ?_
          refine WQ.inNormal ?_
          refine WQ.sub (l' := [(0, vS g N N), (1, vI (a : Int)), (2, vI (m : Int)), (3, vI (c : Int)), (4, .func (.func 33) #[] #[vP b3 0]), (14, vI (((i + j) / 2 + 1 : Nat) : Int)), (15, vI (j : Int))]) ⟨rfl, rfl, rfl, rfl, rfl, rfl, rfl, trivial⟩ ?_
          refine WQ.then (hK32 _ _ _ (by omega) ⟨(i + j) / 2 + 1, j, rfl, rfl, by omega, by omega, hjc, fun p g1 g2 => Int.le_trans (hSl p _ g1 (by omega) (by omega)) (Int.not_lt.1 hcm), h2, hH42⟩)
      ·
        refine WL.pure (v := .bool false) 85 rfl (Nat.le_of_ble_eq_true rfl) rfl rfl (x_lss rfl rfl rfl (dF (hlt))) ?_
        refine WL.nil ?_
        refine WQ.then ?_
        refine hK36 _ _ _ ?_
        refine WC.no rfl ?_
        refine WC.exit ?_
        refine WQ.thenExit ?_
        refine WQ.thenExit ?_
        refine WQ.inExit ?_
        refine WQ.then ?_
        refine hK31 _ _ _ ?_
        refine WC.seq fun K43 hK43 => ?_
        refine WC.seq fun K44 hK44 => ?_
        refine WC.region ?_
        refine WL.pure (v := vI (m : Int)) 107 rfl (Nat.le_of_ble_eq_true rfl) rfl rfl (by kernel_rfl) ?_
        refine WL.pure (v := vI (m : Int)) 17 rfl (Nat.le_of_ble_eq_true rfl) rfl rfl (by kernel_rfl) ?_
        refine WL.nil ?_
        refine WQ.then ?_
        refine hK44 _ _ _ ?_
        refine WC.block ?_
        refine WC.loop (fun kk0 ll0 ww0 => ∃ (k : Nat) (y : Nat → Int), ll0 = [(0, vS g N N), (14, vI (i : Int)), (17, vI (k : Int))] ∧ kk0 = k - i ∧ (i ≤ k) ∧ (k ≤ m) ∧ (Pm a c x y) ∧ (Md m k x y) ∧ HP (Ng g) w ww0 [.cel g (irow N y) 3]) (m - i) [(0, vS g N N), (14, vI (i : Int)), (17, vI (m : Int))] ⟨rfl, rfl, rfl, trivial⟩ ⟨m, x, rfl, rfl, by omega, Nat.le_refl _, Pm.refl _ _ _, Md.refl _ _, hH34⟩ ?_
        rintro kk l w46 ⟨k, y, rfl, hkk, hak, hki, hP, hM, hH47⟩ K45 hK45
        refine WC.seq fun K48 hK48 => ?_
        refine WC.seq fun K49 hK49 => ?_
        refine WC.region ?_
        refine WL.pure (v := vI (k : Int)) 108 rfl (Nat.le_of_ble_eq_true rfl) rfl rfl (by kernel_rfl) ?_
        refine WL.pure (v := vI (i : Int)) 109 rfl (Nat.le_of_ble_eq_true rfl) rfl rfl (by kernel_rfl) ?_
        by_cases hk9 : (i : Int) < (k : Int)
        ·
          refine WL.pure (v := .bool true) 110 rfl (Nat.le_of_ble_eq_true rfl) rfl rfl (x_gtr rfl rfl rfl (dT (hk9))) ?_
          refine WL.nil ?_
          refine WQ.then ?_
          refine hK49 _ _ _ ?_
          refine WC.yes rfl ?_
          refine WC.skip ?_
          refine WQ.then ?_
          refine hK48 _ _ _ ?_
          refine WC.seq fun K50 hK50 => ?_
          refine WC.block ?_
          refine WC.confG (γ := Unit) [(110, .bool true), (109, vI (i : Int)), (108, vI (k : Int)), (0, vS g N N), (14, vI (i : Int)), (17, vI (k : Int))] (fun gy => [vS g N N, vI (k : Int), vS g N N, vI (k : Int), vI ((k - 1 : Nat) : Int), vS g N N, vI (k : Int), vI ((k - 1 : Nat) : Int), vP g (k - 1), vI (y (k - 1)), vS g N N, vI (k : Int), vP g k, vI (y k), vP g k, undef, vP g (k - 1), undef]) (fun gy D wz => HP (Ng g) w wz [(bif D 17 then Ent.cel g (irow N (upI (upI y k (y (k - 1))) (k - 1) (y k))) 3 else (bif D 15 then Ent.cel g (irow N (upI y k (y (k - 1)))) 3 else Ent.cel g (irow N y) 3))]) () (by kernel_rfl) ⟨rfl, rfl, rfl, rfl, rfl, rfl, trivial⟩ (by kernel_rfl) (by kernel_rfl) (by kernel_rfl) (fun _ => rfl) (by kernel_rfl) (HP.drew hH47) ?_ ?_
          · refine AllOk.cons ?o0 (AllOk.cons ?o1 (AllOk.cons ?o2 (AllOk.cons ?o3 (AllOk.cons ?o4 (AllOk.cons ?o5 (AllOk.cons ?o6 (AllOk.cons ?o7 (AllOk.cons ?o8 (AllOk.cons ?o9 (AllOk.cons ?o10 (AllOk.cons ?o11 (AllOk.cons ?o12 (AllOk.cons ?o13 (AllOk.cons ?o14 (AllOk.cons ?o15 (AllOk.cons ?o16 (AllOk.cons ?o17 (AllOk.nil _))))))))))))))))))
            case o0 =>
              intro gy D wz hDi hdep hclo hW
              exact .inl ⟨rfl, rfl, .inl ⟨gy, wz, fun _ _ => rfl, by kernel_rfl, hW⟩⟩
            case o1 =>
              intro gy D wz hDi hdep hclo hW
              exact .inl ⟨rfl, rfl, .inl ⟨gy, wz, fun _ _ => rfl, by kernel_rfl, hW⟩⟩
            case o2 =>
              intro gy D wz hDi hdep hclo hW
              exact .inl ⟨rfl, rfl, .inl ⟨gy, wz, fun _ _ => rfl, by kernel_rfl, hW⟩⟩
            case o3 =>
              intro gy D wz hDi hdep hclo hW
              exact .inl ⟨rfl, rfl, .inl ⟨gy, wz, fun _ _ => rfl, by kernel_rfl, hW⟩⟩
            case o4 =>
              intro gy D wz hDi hdep hclo hW
              exact .inl ⟨rfl, rfl, .inl ⟨gy, wz, fun _ _ => rfl, x_sub (Z := ((k - 1 : Nat) : Int)) rfl rfl rfl (by omega) (by omega) (by omega), hW⟩⟩
            case o5 =>
              intro gy D wz hDi hdep hclo hW
              exact .inl ⟨rfl, rfl, .inl ⟨gy, wz, fun _ _ => rfl, by kernel_rfl, hW⟩⟩
            case o6 =>
              intro gy D wz hDi hdep hclo hW
              exact .inl ⟨rfl, rfl, .inl ⟨gy, wz, fun _ _ => rfl, by kernel_rfl, hW⟩⟩
            case o7 =>
              intro gy D wz hDi hdep hclo hW
              exact .inl ⟨rfl, rfl, .inl ⟨gy, wz, fun _ _ => rfl, x_sub (Z := ((k - 1 : Nat) : Int)) rfl rfl rfl (by omega) (by omega) (by omega), hW⟩⟩
            case o8 =>
              intro gy D wz hDi hdep hclo hW
              exact .inl ⟨rfl, rfl, .inl ⟨gy, wz, fun _ _ => rfl, x_idx (k - 1) (k - 1) rfl rfl rfl Try.underlying23 sz3 (by omega) (by omega) (by omega), hW⟩⟩
            case o9 =>
              intro gy D wz hDi hdep hclo hW
              have hW8 := hW
              have d15 : D 15 = false := by
                cases h : D 15 with
                | false => rfl
                | true => exact absurd (hclo 15 _ rfl h ⟨9, .data⟩ (by simp) rfl) (by rw [hDi]; exact Bool.false_ne_true)
              have d17 : D 17 = false := by
                cases h : D 17 with
                | false => rfl
                | true => exact absurd (hclo 17 _ rfl h ⟨9, .phase⟩ (by simp) rfl) (by rw [hDi]; exact Bool.false_ne_true)
              simp only [d15, d17, cond_true, cond_false] at hW8
              exact .inl ⟨rfl, rfl, .inl ⟨gy, wz, fun _ _ => rfl, x_load rfl rfl Try.underlying3 rfl (HP.cell hW8 0 rfl (irow_get (by omega) rfl)), hW⟩⟩
            case o10 =>
              intro gy D wz hDi hdep hclo hW
              exact .inl ⟨rfl, rfl, .inl ⟨gy, wz, fun _ _ => rfl, by kernel_rfl, hW⟩⟩
            case o11 =>
              intro gy D wz hDi hdep hclo hW
              exact .inl ⟨rfl, rfl, .inl ⟨gy, wz, fun _ _ => rfl, by kernel_rfl, hW⟩⟩
            case o12 =>
              intro gy D wz hDi hdep hclo hW
              exact .inl ⟨rfl, rfl, .inl ⟨gy, wz, fun _ _ => rfl, x_idx (k) (k) rfl rfl rfl Try.underlying23 sz3 (by omega) (by omega) (by omega), hW⟩⟩
            case o13 =>
              intro gy D wz hDi hdep hclo hW
              have hW8 := hW
              have d15 : D 15 = false := by
                cases h : D 15 with
                | false => rfl
                | true => exact absurd (hclo 15 _ rfl h ⟨13, .phase⟩ (by simp) rfl) (by rw [hDi]; exact Bool.false_ne_true)
              have d17 : D 17 = false := by
                cases h : D 17 with
                | false => rfl
                | true => exact absurd (hclo 17 _ rfl h ⟨13, .data⟩ (by simp) rfl) (by rw [hDi]; exact Bool.false_ne_true)
              simp only [d15, d17, cond_true, cond_false] at hW8
              exact .inl ⟨rfl, rfl, .inl ⟨gy, wz, fun _ _ => rfl, x_load rfl rfl Try.underlying3 rfl (HP.cell hW8 0 rfl (irow_get (by omega) rfl)), hW⟩⟩
            case o14 =>
              intro gy D wz hDi hdep hclo hW
              exact .inl ⟨rfl, rfl, .inl ⟨gy, wz, fun _ _ => rfl, x_idx (k) (k) rfl rfl rfl Try.underlying23 sz3 (by omega) (by omega) (by omega), hW⟩⟩
            case o15 =>
              intro gy D wz hDi hdep hclo hW
              have hW9 := hW
              have d17 : D 17 = false := by
                cases h : D 17 with
                | false => rfl
                | true => exact absurd (hclo 17 _ rfl h ⟨15, .chain⟩ (by simp) rfl) (by rw [hDi]; exact Bool.false_ne_true)
              simp only [hDi, d17, cond_true, cond_false] at hW9
              have h4 := HP.set (off := k) (v := vI (y (k - 1))) hW9 0 rfl
              rw [irow_set] at h4
              refine .inl ⟨rfl, rfl, .inr (.inl ⟨_, x_store rfl rfl rfl sz3 rfl (HP.cell hW9 0 rfl (irow_get (by omega) rfl)) (HP.free hW9 0 rfl), rfl, ?_⟩)⟩
              show HP (Ng g) w _ [(bif D 17 then Ent.cel g (irow N (upI (upI y k (y (k - 1))) (k - 1) (y k))) 3 else Ent.cel g (irow N (upI y k (y (k - 1)))) 3)]
              try simp only [d17, cond_true, cond_false]
              exact h4
            case o16 =>
              intro gy D wz hDi hdep hclo hW
              exact .inl ⟨rfl, rfl, .inl ⟨gy, wz, fun _ _ => rfl, x_idx (k - 1) (k - 1) rfl rfl rfl Try.underlying23 sz3 (by omega) (by omega) (by omega), hW⟩⟩
            case o17 =>
              intro gy D wz hDi hdep hclo hW
              have hW9 := hW
              have d15 : D 15 = true := hdep ⟨15, .chain⟩ (by simp) rfl
              simp only [hDi, d15, cond_true, cond_false] at hW9
              have h4 := HP.set (off := k - 1) (v := vI (y k)) hW9 0 rfl
              rw [irow_set] at h4
              refine .inl ⟨rfl, rfl, .inr (.inl ⟨_, x_store rfl rfl rfl sz3 rfl (HP.cell hW9 0 rfl (irow_get (by omega) rfl)) (HP.free hW9 0 rfl), rfl, ?_⟩)⟩
              show HP (Ng g) w _ [Ent.cel g (irow N (upI (upI y k (y (k - 1))) (k - 1) (y k))) 3]
              try simp only [d15, cond_true, cond_false]
              exact h4
          rintro gy D w51 hall hH52
          simp only [hall 15 (by kernel_rfl), hall 17 (by kernel_rfl), cond_true, List.append_nil, List.nil_append, List.cons_append] at hH52
          clear hall
          refine WQ.sub (l' := [(0, vS g N N), (14, vI (i : Int)), (17, vI (k : Int)), (110, .bool true)]) ⟨rfl, rfl, rfl, rfl, trivial⟩ ?_
          refine WQ.inNormal ?_
          refine WQ.then ?_
          refine hK50 _ _ _ ?_
          refine WC.region ?_
          refine WL.pure (v := vI (k : Int)) 111 rfl (Nat.le_of_ble_eq_true rfl) rfl rfl (by kernel_rfl) ?_
          refine WL.pure (v := vI ((k - 1 : Nat) : Int)) 112 rfl (Nat.le_of_ble_eq_true rfl) rfl rfl (x_sub (Z := ((k - 1 : Nat) : Int)) rfl rfl rfl (by omega) (by omega) (by omega)) ?_
          refine WL.pure (v := vI ((k - 1 : Nat) : Int)) 17 rfl (Nat.le_of_ble_eq_true rfl) rfl rfl (by kernel_rfl) ?_
          refine WL.nil ?_
          refine WQ.sub (l' := [(0, vS g N N), (14, vI (i : Int)), (17, vI ((k - 1 : Nat) : Int))]) ⟨rfl, rfl, rfl, trivial⟩ ?_
          refine WQ.then (hK45 _ _ _ (by omega) ⟨k - 1, upI (upI y k (y (k - 1))) (k - 1) (y k), rfl, rfl, by omega, by omega, hP.trans (Pm.swap ⟨by omega, by omega⟩ ⟨by omega, by omega⟩), hM.step (by omega) hki, hH52⟩)
        ·
          refine WL.pure (v := .bool false) 110 rfl (Nat.le_of_ble_eq_true rfl) rfl rfl (x_gtr rfl rfl rfl (dF (hk9))) ?_
          refine WL.nil ?_
          refine WQ.then ?_
          refine hK49 _ _ _ ?_
          refine WC.no rfl ?_
          refine WC.exit ?_
          refine WQ.thenExit ?_
          refine WQ.thenExit ?_
          refine WQ.inExit ?_
          refine WQ.then ?_
          refine hK43 _ _ _ ?_
          refine WC.ret ?_
          refine WQ.thenRet ?_
          refine WQ.ret0 rfl ?_
          obtain rfl : k = i := by omega
          obtain rfl : c = m + 1 := by omega
          exact ⟨y, rfl, ⟨hP, mrg_down hSl (by omega) (by omega) h1 (fun p g1 g2 => h2 p (by omega) g2) hM.hi hM.at_ hM.lo⟩, hH47⟩
    ·
      refine WL.pure (v := .bool false) 80 rfl (Nat.le_of_ble_eq_true rfl) rfl rfl (x_eql rfl rfl rfl (dF (htwo))) ?_
      refine WL.nil ?_
      refine WQ.then ?_
      refine hK28 _ _ _ ?_
      refine WC.sub (l' := [(0, vS g N N), (1, vI (a : Int)), (2, vI (m : Int)), (3, vI (c : Int)), (4, .func (.func 33) #[] #[vP b3 0]), (28, .bool false), (80, .bool false)]) ⟨rfl, rfl, rfl, rfl, rfl, rfl, rfl, trivial⟩ ?_
      refine WC.no rfl ?_
      refine WC.skip ?_
      refine WQ.then ?_
      refine hK27 _ _ _ ?_
      refine WC.seq fun K53 hK53 => ?_
      refine WC.region ?_
      refine WL.pure (v := vI (a : Int)) 129 rfl (Nat.le_of_ble_eq_true rfl) rfl rfl (by kernel_rfl) ?_
      refine WL.pure (v := vI (c : Int)) 130 rfl (Nat.le_of_ble_eq_true rfl) rfl rfl (by kernel_rfl) ?_
      refine WL.pure (v := vI ((a + c : Nat) : Int)) 131 rfl (Nat.le_of_ble_eq_true rfl) rfl rfl (x_add (Z := ((a + c : Nat) : Int)) rfl rfl rfl (by omega) (by omega) (by omega)) ?_
      refine WL.pure (v := .int .u64 ((a + c : Nat) : Int)) 132 rfl (Nat.le_of_ble_eq_true rfl) rfl rfl (x_convI rfl rfl (by kernel_rfl) (by kernel_rfl) (by kernel_rfl) (by rw [IntKind.wrap_u64]; omega)) ?_
      refine WL.pure (v := .int .u64 (((a + c : Nat) : Int) / 2)) 133 rfl (Nat.le_of_ble_eq_true rfl) rfl rfl (x_shr1 rfl rfl rfl (by decide)) ?_
      refine WL.pure (v := vI (d : Int)) 134 rfl (Nat.le_of_ble_eq_true rfl) rfl rfl (x_convI rfl rfl (by kernel_rfl) (by kernel_rfl) (by kernel_rfl) (by rw [IntKind.wrap_i64]; omega)) ?_
      refine WL.pure (v := vI (d : Int)) 18 rfl (Nat.le_of_ble_eq_true rfl) rfl rfl (by kernel_rfl) ?_
      refine WL.nil ?_
      refine WQ.then ?_
      refine hK53 _ _ _ ?_
      refine WC.sub (l' := [(0, vS g N N), (1, vI (a : Int)), (2, vI (m : Int)), (3, vI (c : Int)), (4, .func (.func 33) #[] #[vP b3 0]), (18, vI (d : Int)), (28, .bool false), (80, .bool false)]) ⟨rfl, rfl, rfl, rfl, rfl, rfl, rfl, rfl, trivial⟩ ?_
      refine WC.seq fun K54 hK54 => ?_
      refine WC.region ?_
      refine WL.pure (v := vI (d : Int)) 135 rfl (Nat.le_of_ble_eq_true rfl) rfl rfl (by kernel_rfl) ?_
      refine WL.pure (v := vI (m : Int)) 136 rfl (Nat.le_of_ble_eq_true rfl) rfl rfl (by kernel_rfl) ?_
      refine WL.pure (v := vI ((d + m : Nat) : Int)) 137 rfl (Nat.le_of_ble_eq_true rfl) rfl rfl (x_add (Z := ((d + m : Nat) : Int)) rfl rfl rfl (by omega) (by omega) (by omega)) ?_
      refine WL.pure (v := vI ((d + m : Nat) : Int)) 19 rfl (Nat.le_of_ble_eq_true rfl) rfl rfl (by kernel_rfl) ?_
      refine WL.nil ?_
      refine WQ.then ?_
      refine hK54 _ _ _ ?_
      refine WC.seq fun K55 hK55 => ?_
      refine WC.region ?_
      refine WL.pure (v := vI 0) 20 rfl (Nat.le_of_ble_eq_true rfl) rfl rfl (by kernel_rfl) ?_
      refine WL.pure (v := vI 0) 21 rfl (Nat.le_of_ble_eq_true rfl) rfl rfl (by kernel_rfl) ?_
      refine WL.nil ?_
      refine WQ.then ?_
      refine hK55 _ _ _ ?_
      refine WC.cut (fun lz w2 => ∃ (lo : Nat) (hi : Nat), lz = [(0, vS g N N), (1, vI (a : Int)), (2, vI (m : Int)), (3, vI (c : Int)), (4, .func (.func 33) #[] #[vP b3 0]), (18, vI (d : Int)), (19, vI ((d + m : Nat) : Int)), (20, vI (lo : Int)), (21, vI (hi : Int)), (28, .bool false), (80, .bool false)] ∧ ((d < m ∧ lo = d + m - c ∧ hi = d) ∨ (¬ d < m ∧ lo = a ∧ hi = m)) ∧ HP (Ng g) w w2 [.cel g (irow N x) 3]) ?_ ?_
      ·
        refine WC.seq fun K56 hK56 => ?_
        refine WC.region ?_
        refine WL.pure (v := vI (m : Int)) 138 rfl (Nat.le_of_ble_eq_true rfl) rfl rfl (by kernel_rfl) ?_
        refine WL.pure (v := vI (d : Int)) 139 rfl (Nat.le_of_ble_eq_true rfl) rfl rfl (by kernel_rfl) ?_
        by_cases hgt : (d : Int) < (m : Int)
        ·
          refine WL.pure (v := .bool true) 140 rfl (Nat.le_of_ble_eq_true rfl) rfl rfl (x_gtr rfl rfl rfl (dT (hgt))) ?_
          refine WL.nil ?_
          refine WQ.then ?_
          refine hK56 _ _ _ ?_
          refine WC.yes rfl ?_
          refine WC.seq fun K57 hK57 => ?_
          refine WC.region ?_
          refine WL.pure (v := vI ((d + m : Nat) : Int)) 141 rfl (Nat.le_of_ble_eq_true rfl) rfl rfl (by kernel_rfl) ?_
          refine WL.pure (v := vI (c : Int)) 142 rfl (Nat.le_of_ble_eq_true rfl) rfl rfl (by kernel_rfl) ?_
          refine WL.pure (v := vI ((d + m - c : Nat) : Int)) 143 rfl (Nat.le_of_ble_eq_true rfl) rfl rfl (x_sub (Z := ((d + m - c : Nat) : Int)) rfl rfl rfl (by omega) (by omega) (by omega)) ?_
          refine WL.pure (v := vI ((d + m - c : Nat) : Int)) 20 rfl (Nat.le_of_ble_eq_true rfl) rfl rfl (by kernel_rfl) ?_
          refine WL.nil ?_
          refine WQ.then ?_
          refine hK57 _ _ _ ?_
          refine WC.sub (l' := [(0, vS g N N), (1, vI (a : Int)), (2, vI (m : Int)), (3, vI (c : Int)), (4, .func (.func 33) #[] #[vP b3 0]), (18, vI (d : Int)), (19, vI ((d + m : Nat) : Int)), (20, vI ((d + m - c : Nat) : Int)), (21, vI 0), (28, .bool false), (80, .bool false), (140, .bool true)]) ⟨rfl, rfl, rfl, rfl, rfl, rfl, rfl, rfl, rfl, rfl, rfl, rfl, trivial⟩ ?_
          refine WC.region ?_
          refine WL.pure (v := vI (d : Int)) 144 rfl (Nat.le_of_ble_eq_true rfl) rfl rfl (by kernel_rfl) ?_
          refine WL.pure (v := vI (d : Int)) 21 rfl (Nat.le_of_ble_eq_true rfl) rfl rfl (by kernel_rfl) ?_
          refine WL.nil ?_
          refine WQ.sub (l' := [(0, vS g N N), (1, vI (a : Int)), (2, vI (m : Int)), (3, vI (c : Int)), (4, .func (.func 33) #[] #[vP b3 0]), (18, vI (d : Int)), (19, vI ((d + m : Nat) : Int)), (20, vI ((d + m - c : Nat) : Int)), (21, vI (d : Int)), (28, .bool false), (80, .bool false)]) ⟨rfl, rfl, rfl, rfl, rfl, rfl, rfl, rfl, rfl, rfl, rfl, trivial⟩ ?_
          exact WQ.cut ⟨d + m - c, d, rfl, .inl ⟨by omega, rfl, rfl⟩, (ngB hB)⟩
        ·
          refine WL.pure (v := .bool false) 140 rfl (Nat.le_of_ble_eq_true rfl) rfl rfl (x_gtr rfl rfl rfl (dF (hgt))) ?_
          refine WL.nil ?_
          refine WQ.then ?_
          refine hK56 _ _ _ ?_
          refine WC.no rfl ?_
          refine WC.seq fun K58 hK58 => ?_
          refine WC.region ?_
          refine WL.pure (v := vI (a : Int)) 145 rfl (Nat.le_of_ble_eq_true rfl) rfl rfl (by kernel_rfl) ?_
          refine WL.pure (v := vI (a : Int)) 20 rfl (Nat.le_of_ble_eq_true rfl) rfl rfl (by kernel_rfl) ?_
          refine WL.nil ?_
          refine WQ.then ?_
          refine hK58 _ _ _ ?_
          refine WC.sub (l' := [(0, vS g N N), (1, vI (a : Int)), (2, vI (m : Int)), (3, vI (c : Int)), (4, .func (.func 33) #[] #[vP b3 0]), (18, vI (d : Int)), (19, vI ((d + m : Nat) : Int)), (20, vI (a : Int)), (21, vI 0), (28, .bool false), (80, .bool false), (140, .bool false)]) ⟨rfl, rfl, rfl, rfl, rfl, rfl, rfl, rfl, rfl, rfl, rfl, rfl, trivial⟩ ?_
          refine WC.region ?_
          refine WL.pure (v := vI (m : Int)) 146 rfl (Nat.le_of_ble_eq_true rfl) rfl rfl (by kernel_rfl) ?_
          refine WL.pure (v := vI (m : Int)) 21 rfl (Nat.le_of_ble_eq_true rfl) rfl rfl (by kernel_rfl) ?_
          refine WL.nil ?_
          refine WQ.sub (l' := [(0, vS g N N), (1, vI (a : Int)), (2, vI (m : Int)), (3, vI (c : Int)), (4, .func (.func 33) #[] #[vP b3 0]), (18, vI (d : Int)), (19, vI ((d + m : Nat) : Int)), (20, vI (a : Int)), (21, vI (m : Int)), (28, .bool false), (80, .bool false)]) ⟨rfl, rfl, rfl, rfl, rfl, rfl, rfl, rfl, rfl, rfl, rfl, trivial⟩ ?_
          exact WQ.cut ⟨a, m, rfl, .inr ⟨by omega, rfl, rfl⟩, (ngB hB)⟩
      ·
        rintro lz w60 ⟨lo, hi, rfl, hsr, hH59⟩
        refine WC.seq fun K61 hK61 => ?_
        refine WC.region ?_
        refine WL.pure (v := vI ((d + m : Nat) : Int)) 147 rfl (Nat.le_of_ble_eq_true rfl) rfl rfl (by kernel_rfl) ?_
        refine WL.pure (v := vI ((d + m - 1 : Nat) : Int)) 148 rfl (Nat.le_of_ble_eq_true rfl) rfl rfl (x_sub (Z := ((d + m - 1 : Nat) : Int)) rfl rfl rfl (by omega) (by omega) (by omega)) ?_
        refine WL.pure (v := vI ((d + m - 1 : Nat) : Int)) 22 rfl (Nat.le_of_ble_eq_true rfl) rfl rfl (by kernel_rfl) ?_
        refine WL.nil ?_
        refine WQ.then ?_
        refine hK61 _ _ _ ?_
        refine WC.seq fun K62 hK62 => ?_
        refine WC.block ?_
        refine WC.loop (fun kk0 ll0 ww0 => ∃ (s : Nat) (r : Nat), ll0 = [(0, vS g N N), (1, vI (a : Int)), (2, vI (m : Int)), (3, vI (c : Int)), (4, .func (.func 33) #[] #[vP b3 0]), (18, vI (d : Int)), (19, vI ((d + m : Nat) : Int)), (20, vI (s : Int)), (21, vI (r : Int)), (22, vI ((d + m - 1 : Nat) : Int))] ∧ kk0 = r - s ∧ (lo ≤ s) ∧ (s ≤ r) ∧ (r ≤ hi) ∧ (∀ q, lo ≤ q → q < s → κ (x q) ≤ κ (x (d + m - 1 - q))) ∧ (∀ q, r ≤ q → q < hi → κ (x (d + m - 1 - q)) < κ (x q)) ∧ HP (Ng g) w ww0 [.cel g (irow N x) 3]) (hi - lo) [(0, vS g N N), (1, vI (a : Int)), (2, vI (m : Int)), (3, vI (c : Int)), (4, .func (.func 33) #[] #[vP b3 0]), (18, vI (d : Int)), (19, vI ((d + m : Nat) : Int)), (20, vI (lo : Int)), (21, vI (hi : Int)), (22, vI ((d + m - 1 : Nat) : Int))] ⟨rfl, rfl, rfl, rfl, rfl, rfl, rfl, rfl, rfl, rfl, trivial⟩ ⟨lo, hi, rfl, rfl, Nat.le_refl _, by omega, Nat.le_refl _, fun p g1 g2 => by omega, fun p g1 g2 => by omega, hH59⟩ ?_
        rintro kk l w64 ⟨s, r, rfl, hkk, hls, hsr2, hrh, hu, hv, hH65⟩ K63 hK63
        refine WC.seq fun K66 hK66 => ?_
        refine WC.seq fun K67 hK67 => ?_
        refine WC.region ?_
        refine WL.pure (v := vI (s : Int)) 149 rfl (Nat.le_of_ble_eq_true rfl) rfl rfl (by kernel_rfl) ?_
        refine WL.pure (v := vI (r : Int)) 150 rfl (Nat.le_of_ble_eq_true rfl) rfl rfl (by kernel_rfl) ?_
        by_cases hlt : (s : Int) < (r : Int)
        ·
          refine WL.pure (v := .bool true) 151 rfl (Nat.le_of_ble_eq_true rfl) rfl rfl (x_lss rfl rfl rfl (dT (hlt))) ?_
          refine WL.nil ?_
          refine WQ.then ?_
          refine hK67 _ _ _ ?_
          refine WC.yes rfl ?_
          refine WC.skip ?_
          refine WQ.then ?_
          refine hK66 _ _ _ ?_
          refine WC.block ?_
          refine WC.seq fun K68 hK68 => ?_
          refine WC.region ?_
          refine WL.pure (v := vI (s : Int)) 152 rfl (Nat.le_of_ble_eq_true rfl) rfl rfl (by kernel_rfl) ?_
          refine WL.pure (v := vI (r : Int)) 153 rfl (Nat.le_of_ble_eq_true rfl) rfl rfl (by kernel_rfl) ?_
          refine WL.pure (v := vI ((s + r : Nat) : Int)) 154 rfl (Nat.le_of_ble_eq_true rfl) rfl rfl (x_add (Z := ((s + r : Nat) : Int)) rfl rfl rfl (by omega) (by omega) (by omega)) ?_
          refine WL.pure (v := .int .u64 ((s + r : Nat) : Int)) 155 rfl (Nat.le_of_ble_eq_true rfl) rfl rfl (x_convI rfl rfl (by kernel_rfl) (by kernel_rfl) (by kernel_rfl) (by rw [IntKind.wrap_u64]; omega)) ?_
          refine WL.pure (v := .int .u64 (((s + r : Nat) : Int) / 2)) 156 rfl (Nat.le_of_ble_eq_true rfl) rfl rfl (x_shr1 rfl rfl rfl (by decide)) ?_
          refine WL.pure (v := vI (((s + r) / 2 : Nat) : Int)) 157 rfl (Nat.le_of_ble_eq_true rfl) rfl rfl (x_convI rfl rfl (by kernel_rfl) (by kernel_rfl) (by kernel_rfl) (by rw [IntKind.wrap_i64]; omega)) ?_
          refine WL.pure (v := vI (((s + r) / 2 : Nat) : Int)) 23 rfl (Nat.le_of_ble_eq_true rfl) rfl rfl (by kernel_rfl) ?_
          refine WL.nil ?_
          refine WQ.then ?_
          refine hK68 _ _ _ ?_
          refine WC.sub (l' := [(0, vS g N N), (1, vI (a : Int)), (2, vI (m : Int)), (3, vI (c : Int)), (4, .func (.func 33) #[] #[vP b3 0]), (18, vI (d : Int)), (19, vI ((d + m : Nat) : Int)), (20, vI (s : Int)), (21, vI (r : Int)), (22, vI ((d + m - 1 : Nat) : Int)), (23, vI (((s + r) / 2 : Nat) : Int)), (151, .bool true)]) ⟨rfl, rfl, rfl, rfl, rfl, rfl, rfl, rfl, rfl, rfl, rfl, rfl, trivial⟩ ?_
          refine WC.seq fun K69 hK69 => ?_
          have hz := hx
          by_cases hcm : κ (x (d + m - 1 - (s + r) / 2)) < κ (x ((s + r) / 2))
          ·
            refine WC.confG (γ := Unit) [(0, vS g N N), (1, vI (a : Int)), (2, vI (m : Int)), (3, vI (c : Int)), (4, .func (.func 33) #[] #[vP b3 0]), (18, vI (d : Int)), (19, vI ((d + m : Nat) : Int)), (20, vI (s : Int)), (21, vI (r : Int)), (22, vI ((d + m - 1 : Nat) : Int)), (23, vI (((s + r) / 2 : Nat) : Int)), (151, .bool true)] (fun gy => [.func (.func 33) #[] #[vP b3 0], vS g N N, vI ((d + m - 1 : Nat) : Int), vI (((s + r) / 2 : Nat) : Int), vI ((d + m - 1 - (s + r) / 2 : Nat) : Int), vP g (d + m - 1 - (s + r) / 2), vI (x (d + m - 1 - (s + r) / 2)), vS g N N, vI (((s + r) / 2 : Nat) : Int), vP g ((s + r) / 2), vI (x ((s + r) / 2)), vI (cmpI (κ (x (d + m - 1 - (s + r) / 2))) (κ (x ((s + r) / 2)))), .bool true, .bool false]) (fun gy D wz => HP (Ng g) w wz [.cel g (irow N x) 3]) () (by kernel_rfl) ⟨rfl, rfl, rfl, rfl, rfl, rfl, rfl, rfl, rfl, rfl, rfl, rfl, trivial⟩ (by kernel_rfl) (by kernel_rfl) (by kernel_rfl) (fun _ => rfl) (by kernel_rfl) (HP.drew hH65) ?_ ?_
            · refine AllOk.cons ?o0 (AllOk.cons ?o1 (AllOk.cons ?o2 (AllOk.cons ?o3 (AllOk.cons ?o4 (AllOk.cons ?o5 (AllOk.cons ?o6 (AllOk.cons ?o7 (AllOk.cons ?o8 (AllOk.cons ?o9 (AllOk.cons ?o10 (AllOk.cons ?o11 (AllOk.cons ?o12 (AllOk.cons ?o13 (AllOk.nil _))))))))))))))
              case o0 =>
                intro gy D wz hDi hdep hclo hW
                exact .inl ⟨rfl, rfl, .inl ⟨gy, wz, fun _ _ => rfl, by kernel_rfl, hW⟩⟩
              case o1 =>
                intro gy D wz hDi hdep hclo hW
                exact .inl ⟨rfl, rfl, .inl ⟨gy, wz, fun _ _ => rfl, by kernel_rfl, hW⟩⟩
              case o2 =>
                intro gy D wz hDi hdep hclo hW
                exact .inl ⟨rfl, rfl, .inl ⟨gy, wz, fun _ _ => rfl, by kernel_rfl, hW⟩⟩
              case o3 =>
                intro gy D wz hDi hdep hclo hW
                exact .inl ⟨rfl, rfl, .inl ⟨gy, wz, fun _ _ => rfl, by kernel_rfl, hW⟩⟩
              case o4 =>
                intro gy D wz hDi hdep hclo hW
                exact .inl ⟨rfl, rfl, .inl ⟨gy, wz, fun _ _ => rfl, x_sub (Z := ((d + m - 1 - (s + r) / 2 : Nat) : Int)) rfl rfl rfl (by omega) (by omega) (by omega), hW⟩⟩
              case o5 =>
                intro gy D wz hDi hdep hclo hW
                exact .inl ⟨rfl, rfl, .inl ⟨gy, wz, fun _ _ => rfl, x_idx (d + m - 1 - (s + r) / 2) (d + m - 1 - (s + r) / 2) rfl rfl rfl Try.underlying23 sz3 (by omega) (by omega) (by omega), hW⟩⟩
              case o6 =>
                intro gy D wz hDi hdep hclo hW
                exact .inl ⟨rfl, rfl, .inl ⟨gy, wz, fun _ _ => rfl, x_load rfl rfl Try.underlying3 rfl (HP.cell hW 0 rfl (irow_get (by omega) rfl)), hW⟩⟩
              case o7 =>
                intro gy D wz hDi hdep hclo hW
                exact .inl ⟨rfl, rfl, .inl ⟨gy, wz, fun _ _ => rfl, by kernel_rfl, hW⟩⟩
              case o8 =>
                intro gy D wz hDi hdep hclo hW
                exact .inl ⟨rfl, rfl, .inl ⟨gy, wz, fun _ _ => rfl, by kernel_rfl, hW⟩⟩
              case o9 =>
                intro gy D wz hDi hdep hclo hW
                exact .inl ⟨rfl, rfl, .inl ⟨gy, wz, fun _ _ => rfl, x_idx ((s + r) / 2) ((s + r) / 2) rfl rfl rfl Try.underlying23 sz3 (by omega) (by omega) (by omega), hW⟩⟩
              case o10 =>
                intro gy D wz hDi hdep hclo hW
                exact .inl ⟨rfl, rfl, .inl ⟨gy, wz, fun _ _ => rfl, x_load rfl rfl Try.underlying3 rfl (HP.cell hW 0 rfl (irow_get (by omega) rfl)), hW⟩⟩
              case o11 =>
                intro gy D wz hDi hdep hclo hW
                have hW2 := hW
                exact .inl ⟨rfl, rfl, .inr (.inr ⟨33, #[vI (x (d + m - 1 - (s + r) / 2)), vI (x ((s + r) / 2)), vP b3 0], by kernel_rfl, (hK _ (hW.sub (List.nil_sublist _)) _ _ (hz ((d + m - 1 - (s + r) / 2)) (by omega)) (hz (((s + r) / 2)) (by omega))).mono fun e w2 h => ⟨gy, fun _ _ => rfl, h.1, HP.call hW h.2⟩⟩)⟩
              case o12 =>
                intro gy D wz hDi hdep hclo hW
                exact .inl ⟨rfl, rfl, .inl ⟨gy, wz, fun _ _ => rfl, x_lss rfl rfl rfl (dT (cmp_neg.2 hcm)), hW⟩⟩
              case o13 =>
                intro gy D wz hDi hdep hclo hW
                exact .inl ⟨rfl, rfl, .inl ⟨gy, wz, fun _ _ => rfl, by kernel_rfl, hW⟩⟩
            rintro gy D w70 hall hH71
            clear hall
            refine WQ.sub (l' := [(0, vS g N N), (1, vI (a : Int)), (2, vI (m : Int)), (3, vI (c : Int)), (4, .func (.func 33) #[] #[vP b3 0]), (18, vI (d : Int)), (19, vI ((d + m : Nat) : Int)), (20, vI (s : Int)), (21, vI (r : Int)), (22, vI ((d + m - 1 : Nat) : Int)), (23, vI (((s + r) / 2 : Nat) : Int)), (151, .bool true), (171, .bool false)]) ⟨rfl, rfl, rfl, rfl, rfl, rfl, rfl, rfl, rfl, rfl, rfl, rfl, rfl, trivial⟩ ?_
            refine WQ.then ?_
            refine hK69 _ _ _ ?_
            refine WC.no rfl ?_
            refine WC.region ?_
            refine WL.pure (v := vI (((s + r) / 2 : Nat) : Int)) 174 rfl (Nat.le_of_ble_eq_true rfl) rfl rfl (by kernel_rfl) ?_
            refine WL.pure (v := vI (((s + r) / 2 : Nat) : Int)) 21 rfl (Nat.le_of_ble_eq_true rfl) rfl rfl (by kernel_rfl) ?_
            refine WL.nil ?_
            refine WQ.inNormal ?_
            refine WQ.sub (l' := [(0, vS g N N), (1, vI (a : Int)), (2, vI (m : Int)), (3, vI (c : Int)), (4, .func (.func 33) #[] #[vP b3 0]), (18, vI (d : Int)), (19, vI ((d + m : Nat) : Int)), (20, vI (s : Int)), (21, vI (((s + r) / 2 : Nat) : Int)), (22, vI ((d + m - 1 : Nat) : Int))]) ⟨rfl, rfl, rfl, rfl, rfl, rfl, rfl, rfl, rfl, rfl, trivial⟩ ?_
            refine WQ.then (hK63 _ _ _ (by omega) ⟨s, (s + r) / 2, rfl, rfl, hls, by omega, by omega, hu, sym_dn (lo := lo) hSl hSr (by omega) (by omega) (by omega) hcm, hH71⟩)
          ·
            refine WC.confG (γ := Unit) [(0, vS g N N), (1, vI (a : Int)), (2, vI (m : Int)), (3, vI (c : Int)), (4, .func (.func 33) #[] #[vP b3 0]), (18, vI (d : Int)), (19, vI ((d + m : Nat) : Int)), (20, vI (s : Int)), (21, vI (r : Int)), (22, vI ((d + m - 1 : Nat) : Int)), (23, vI (((s + r) / 2 : Nat) : Int)), (151, .bool true)] (fun gy => [.func (.func 33) #[] #[vP b3 0], vS g N N, vI ((d + m - 1 : Nat) : Int), vI (((s + r) / 2 : Nat) : Int), vI ((d + m - 1 - (s + r) / 2 : Nat) : Int), vP g (d + m - 1 - (s + r) / 2), vI (x (d + m - 1 - (s + r) / 2)), vS g N N, vI (((s + r) / 2 : Nat) : Int), vP g ((s + r) / 2), vI (x ((s + r) / 2)), vI (cmpI (κ (x (d + m - 1 - (s + r) / 2))) (κ (x ((s + r) / 2)))), .bool false, .bool true]) (fun gy D wz => HP (Ng g) w wz [.cel g (irow N x) 3]) () (by kernel_rfl) ⟨rfl, rfl, rfl, rfl, rfl, rfl, rfl, rfl, rfl, rfl, rfl, rfl, trivial⟩ (by kernel_rfl) (by kernel_rfl) (by kernel_rfl) (fun _ => rfl) (by kernel_rfl) (HP.drew hH65) ?_ ?_
            · refine AllOk.cons ?o0 (AllOk.cons ?o1 (AllOk.cons ?o2 (AllOk.cons ?o3 (AllOk.cons ?o4 (AllOk.cons ?o5 (AllOk.cons ?o6 (AllOk.cons ?o7 (AllOk.cons ?o8 (AllOk.cons ?o9 (AllOk.cons ?o10 (AllOk.cons ?o11 (AllOk.cons ?o12 (AllOk.cons ?o13 (AllOk.nil _))))))))))))))
              case o0 =>
                intro gy D wz hDi hdep hclo hW
                exact .inl ⟨rfl, rfl, .inl ⟨gy, wz, fun _ _ => rfl, by kernel_rfl, hW⟩⟩
              case o1 =>
                intro gy D wz hDi hdep hclo hW
                exact .inl ⟨rfl, rfl, .inl ⟨gy, wz, fun _ _ => rfl, by kernel_rfl, hW⟩⟩
              case o2 =>
                intro gy D wz hDi hdep hclo hW
                exact .inl ⟨rfl, rfl, .inl ⟨gy, wz, fun _ _ => rfl, by kernel_rfl, hW⟩⟩
              case o3 =>
                intro gy D wz hDi hdep hclo hW
                exact .inl ⟨rfl, rfl, .inl ⟨gy, wz, fun _ _ => rfl, by kernel_rfl, hW⟩⟩
              case o4 =>
                intro gy D wz hDi hdep hclo hW
                exact .inl ⟨rfl, rfl, .inl ⟨gy, wz, fun _ _ => rfl, x_sub (Z := ((d + m - 1 - (s + r) / 2 : Nat) : Int)) rfl rfl rfl (by omega) (by omega) (by omega), hW⟩⟩
              case o5 =>
                intro gy D wz hDi hdep hclo hW
                exact .inl ⟨rfl, rfl, .inl ⟨gy, wz, fun _ _ => rfl, x_idx (d + m - 1 - (s + r) / 2) (d + m - 1 - (s + r) / 2) rfl rfl rfl Try.underlying23 sz3 (by omega) (by omega) (by omega), hW⟩⟩
              case o6 =>
                intro gy D wz hDi hdep hclo hW
                exact .inl ⟨rfl, rfl, .inl ⟨gy, wz, fun _ _ => rfl, x_load rfl rfl Try.underlying3 rfl (HP.cell hW 0 rfl (irow_get (by omega) rfl)), hW⟩⟩
              case o7 =>
                intro gy D wz hDi hdep hclo hW
                exact .inl ⟨rfl, rfl, .inl ⟨gy, wz, fun _ _ => rfl, by kernel_rfl, hW⟩⟩
              case o8 =>
                intro gy D wz hDi hdep hclo hW
                exact .inl ⟨rfl, rfl, .inl ⟨gy, wz, fun _ _ => rfl, by kernel_rfl, hW⟩⟩
              case o9 =>
                intro gy D wz hDi hdep hclo hW
                exact .inl ⟨rfl, rfl, .inl ⟨gy, wz, fun _ _ => rfl, x_idx ((s + r) / 2) ((s + r) / 2) rfl rfl rfl Try.underlying23 sz3 (by omega) (by omega) (by omega), hW⟩⟩
              case o10 =>
                intro gy D wz hDi hdep hclo hW
                exact .inl ⟨rfl, rfl, .inl ⟨gy, wz, fun _ _ => rfl, x_load rfl rfl Try.underlying3 rfl (HP.cell hW 0 rfl (irow_get (by omega) rfl)), hW⟩⟩
              case o11 =>
                intro gy D wz hDi hdep hclo hW
                have hW2 := hW
                exact .inl ⟨rfl, rfl, .inr (.inr ⟨33, #[vI (x (d + m - 1 - (s + r) / 2)), vI (x ((s + r) / 2)), vP b3 0], by kernel_rfl, (hK _ (hW.sub (List.nil_sublist _)) _ _ (hz ((d + m - 1 - (s + r) / 2)) (by omega)) (hz (((s + r) / 2)) (by omega))).mono fun e w2 h => ⟨gy, fun _ _ => rfl, h.1, HP.call hW h.2⟩⟩)⟩
              case o12 =>
                intro gy D wz hDi hdep hclo hW
                exact .inl ⟨rfl, rfl, .inl ⟨gy, wz, fun _ _ => rfl, x_lss rfl rfl rfl (dF (fun h => hcm (cmp_neg.1 h))), hW⟩⟩
              case o13 =>
                intro gy D wz hDi hdep hclo hW
                exact .inl ⟨rfl, rfl, .inl ⟨gy, wz, fun _ _ => rfl, by kernel_rfl, hW⟩⟩
            rintro gy D w72 hall hH73
            clear hall
            refine WQ.sub (l' := [(0, vS g N N), (1, vI (a : Int)), (2, vI (m : Int)), (3, vI (c : Int)), (4, .func (.func 33) #[] #[vP b3 0]), (18, vI (d : Int)), (19, vI ((d + m : Nat) : Int)), (20, vI (s : Int)), (21, vI (r : Int)), (22, vI ((d + m - 1 : Nat) : Int)), (23, vI (((s + r) / 2 : Nat) : Int)), (151, .bool true), (171, .bool true)]) ⟨rfl, rfl, rfl, rfl, rfl, rfl, rfl, rfl, rfl, rfl, rfl, rfl, rfl, trivial⟩ ?_
            refine WQ.then ?_
            refine hK69 _ _ _ ?_
            refine WC.yes rfl ?_
            refine WC.region ?_
            refine WL.pure (v := vI (((s + r) / 2 : Nat) : Int)) 172 rfl (Nat.le_of_ble_eq_true rfl) rfl rfl (by kernel_rfl) ?_
            refine WL.pure (v := vI (((s + r) / 2 + 1 : Nat) : Int)) 173 rfl (Nat.le_of_ble_eq_true rfl) rfl rfl (x_add (Z := (((s + r) / 2 + 1 : Nat) : Int)) rfl rfl rfl (by omega) (by omega) (by omega)) ?_
            refine WL.pure (v := vI (((s + r) / 2 + 1 : Nat) : Int)) 20 rfl (Nat.le_of_ble_eq_true rfl) rfl rfl (by kernel_rfl) ?_
            refine WL.nil ?_
            refine WQ.inNormal ?_
            refine WQ.sub (l' := [(0, vS g N N), (1, vI (a : Int)), (2, vI (m : Int)), (3, vI (c : Int)), (4, .func (.func 33) #[] #[vP b3 0]), (18, vI (d : Int)), (19, vI ((d + m : Nat) : Int)), (20, vI (((s + r) / 2 + 1 : Nat) : Int)), (21, vI (r : Int)), (22, vI ((d + m - 1 : Nat) : Int))]) ⟨rfl, rfl, rfl, rfl, rfl, rfl, rfl, rfl, rfl, rfl, trivial⟩ ?_
            refine WQ.then (hK63 _ _ _ (by omega) ⟨(s + r) / 2 + 1, r, rfl, rfl, by omega, by omega, hrh, sym_up (hi := hi) hSl hSr (by omega) (by omega) (by omega) hcm, hv, hH73⟩)
        ·
          refine WL.pure (v := .bool false) 151 rfl (Nat.le_of_ble_eq_true rfl) rfl rfl (x_lss rfl rfl rfl (dF (hlt))) ?_
          refine WL.nil ?_
          refine WQ.then ?_
          refine hK67 _ _ _ ?_
          refine WC.no rfl ?_
          refine WC.exit ?_
          refine WQ.thenExit ?_
          refine WQ.thenExit ?_
          refine WQ.inExit ?_
          refine WQ.then ?_
          refine hK62 _ _ _ ?_
          refine WC.seq fun K74 hK74 => ?_
          obtain rfl : s = r := by omega
          have hHf := half_of ham hmc hd hsr hls hrh hu hv
          have hbd := hHf.bd
          refine WC.region ?_
          refine WL.pure (v := vI ((d + m : Nat) : Int)) 175 rfl (Nat.le_of_ble_eq_true rfl) rfl rfl (by kernel_rfl) ?_
          refine WL.pure (v := vI (s : Int)) 176 rfl (Nat.le_of_ble_eq_true rfl) rfl rfl (by kernel_rfl) ?_
          refine WL.pure (v := vI ((d + m - s : Nat) : Int)) 177 rfl (Nat.le_of_ble_eq_true rfl) rfl rfl (x_sub (Z := ((d + m - s : Nat) : Int)) rfl rfl rfl (by omega) (by omega) (by omega)) ?_
          refine WL.pure (v := vI ((d + m - s : Nat) : Int)) 24 rfl (Nat.le_of_ble_eq_true rfl) rfl rfl (by kernel_rfl) ?_
          refine WL.nil ?_
          refine WQ.then ?_
          refine hK74 _ _ _ ?_
          refine WC.cut (fun lz w2 => ∃ (y : Nat → Int), lz = [(0, vS g N N), (1, vI (a : Int)), (2, vI (m : Int)), (3, vI (c : Int)), (4, .func (.func 33) #[] #[vP b3 0]), (18, vI (d : Int)), (19, vI ((d + m : Nat) : Int)), (20, vI (s : Int)), (21, vI (s : Int)), (22, vI ((d + m - 1 : Nat) : Int)), (24, vI ((d + m - s : Nat) : Int)), (151, .bool false)] ∧ (Pm a c x y) ∧ (∀ p, y p = rot s m (d + m - s) x p) ∧ HP (Ng g) w w2 [.cel g (irow N y) 3]) ?_ ?_
          ·
            refine WC.seq fun K75 hK75 => ?_
            refine WC.region ?_
            refine WL.pure (v := vI (s : Int)) 178 rfl (Nat.le_of_ble_eq_true rfl) rfl rfl (by kernel_rfl) ?_
            refine WL.pure (v := vI (m : Int)) 179 rfl (Nat.le_of_ble_eq_true rfl) rfl rfl (by kernel_rfl) ?_
            by_cases c1 : (s : Int) < (m : Int)
            ·
              refine WL.pure (v := .bool true) 180 rfl (Nat.le_of_ble_eq_true rfl) rfl rfl (x_lss rfl rfl rfl (dT (c1))) ?_
              refine WL.pure (v := .bool true) 181 rfl (Nat.le_of_ble_eq_true rfl) rfl rfl (by kernel_rfl) ?_
              refine WL.pure (v := vI (m : Int)) 182 rfl (Nat.le_of_ble_eq_true rfl) rfl rfl (by kernel_rfl) ?_
              refine WL.pure (v := vI ((d + m - s : Nat) : Int)) 183 rfl (Nat.le_of_ble_eq_true rfl) rfl rfl (by kernel_rfl) ?_
              by_cases c2 : (m : Int) < ((d + m - s : Nat) : Int)
              ·
                refine WL.pure (v := .bool true) 184 rfl (Nat.le_of_ble_eq_true rfl) rfl rfl (x_lss rfl rfl rfl (dT (c2))) ?_
                refine WL.pure (v := .bool true) 185 rfl (Nat.le_of_ble_eq_true rfl) rfl rfl (by kernel_rfl) ?_
                refine WL.nil ?_
                refine WQ.then ?_
                refine hK75 _ _ _ ?_
                refine WC.sub (l' := [(0, vS g N N), (1, vI (a : Int)), (2, vI (m : Int)), (3, vI (c : Int)), (4, .func (.func 33) #[] #[vP b3 0]), (18, vI (d : Int)), (19, vI ((d + m : Nat) : Int)), (20, vI (s : Int)), (21, vI (s : Int)), (22, vI ((d + m - 1 : Nat) : Int)), (24, vI ((d + m - s : Nat) : Int)), (151, .bool false), (185, .bool true)]) ⟨rfl, rfl, rfl, rfl, rfl, rfl, rfl, rfl, rfl, rfl, rfl, rfl, rfl, trivial⟩ ?_
                refine WC.yes rfl ?_
                refine WC.region ?_
                refine WL.pure (v := vS g N N) 186 rfl (Nat.le_of_ble_eq_true rfl) rfl rfl (by kernel_rfl) ?_
                refine WL.pure (v := vI (s : Int)) 187 rfl (Nat.le_of_ble_eq_true rfl) rfl rfl (by kernel_rfl) ?_
                refine WL.pure (v := vI (m : Int)) 188 rfl (Nat.le_of_ble_eq_true rfl) rfl rfl (by kernel_rfl) ?_
                refine WL.pure (v := vI ((d + m - s : Nat) : Int)) 189 rfl (Nat.le_of_ble_eq_true rfl) rfl rfl (by kernel_rfl) ?_
                refine WL.pure (v := .func (.func 33) #[] #[vP b3 0]) 190 rfl (Nat.le_of_ble_eq_true rfl) rfl rfl (by kernel_rfl) ?_
                refine WL.call (f := 52) (args := #[vS g N N, vI (s : Int), vI (m : Int), vI ((d + m - s : Nat) : Int), .func (.func 33) #[] #[vP b3 0]]) 191 rfl (Nat.le_of_ble_eq_true rfl) rfl rfl (by kernel_rfl) ?_
                refine (rotate_any g b3 nq N x s m (d + m - s) _ (HP.ownB (A := []) hH65) hN4 (by omega) (by omega) (by omega)).mono ?_
                rintro e w76 ⟨y2, rfl, ⟨hP3, hS3⟩, hb4⟩
                refine ⟨_, rfl, ?_⟩
                have hH77 : HP (Ng g) w _ [.cel g (irow N y2) 3] := (seqN hH65 hb4)
                refine WL.nil ?_
                refine WQ.sub (l' := [(0, vS g N N), (1, vI (a : Int)), (2, vI (m : Int)), (3, vI (c : Int)), (4, .func (.func 33) #[] #[vP b3 0]), (18, vI (d : Int)), (19, vI ((d + m : Nat) : Int)), (20, vI (s : Int)), (21, vI (s : Int)), (22, vI ((d + m - 1 : Nat) : Int)), (24, vI ((d + m - s : Nat) : Int)), (151, .bool false)]) ⟨rfl, rfl, rfl, rfl, rfl, rfl, rfl, rfl, rfl, rfl, rfl, rfl, trivial⟩ ?_
                exact WQ.cut ⟨y2, rfl, hP3.mono (by omega) (by omega), hS3, hH77⟩
              ·
                refine WL.pure (v := .bool false) 184 rfl (Nat.le_of_ble_eq_true rfl) rfl rfl (x_lss rfl rfl rfl (dF (c2))) ?_
                refine WL.pure (v := .bool false) 185 rfl (Nat.le_of_ble_eq_true rfl) rfl rfl (by kernel_rfl) ?_
                refine WL.nil ?_
                refine WQ.then ?_
                refine hK75 _ _ _ ?_
                refine WC.sub (l' := [(0, vS g N N), (1, vI (a : Int)), (2, vI (m : Int)), (3, vI (c : Int)), (4, .func (.func 33) #[] #[vP b3 0]), (18, vI (d : Int)), (19, vI ((d + m : Nat) : Int)), (20, vI (s : Int)), (21, vI (s : Int)), (22, vI ((d + m - 1 : Nat) : Int)), (24, vI ((d + m - s : Nat) : Int)), (151, .bool false), (185, .bool false)]) ⟨rfl, rfl, rfl, rfl, rfl, rfl, rfl, rfl, rfl, rfl, rfl, rfl, rfl, trivial⟩ ?_
                refine WC.no rfl ?_
                refine WC.skip ?_
                refine WQ.sub (l' := [(0, vS g N N), (1, vI (a : Int)), (2, vI (m : Int)), (3, vI (c : Int)), (4, .func (.func 33) #[] #[vP b3 0]), (18, vI (d : Int)), (19, vI ((d + m : Nat) : Int)), (20, vI (s : Int)), (21, vI (s : Int)), (22, vI ((d + m - 1 : Nat) : Int)), (24, vI ((d + m - s : Nat) : Int)), (151, .bool false)]) ⟨rfl, rfl, rfl, rfl, rfl, rfl, rfl, rfl, rfl, rfl, rfl, rfl, trivial⟩ ?_
                exact WQ.cut ⟨x, rfl, Pm.refl _ _ _, fun p => rot_none (by omega) (by omega) p, hH65⟩
            ·
              refine WL.pure (v := .bool false) 180 rfl (Nat.le_of_ble_eq_true rfl) rfl rfl (x_lss rfl rfl rfl (dF (c1))) ?_
              refine WL.pure (v := .bool false) 181 rfl (Nat.le_of_ble_eq_true rfl) rfl rfl (by kernel_rfl) ?_
              refine WL.pass 182 rfl (Nat.le_of_ble_eq_true rfl) rfl ?_
              refine WL.pass 183 rfl (Nat.le_of_ble_eq_true rfl) rfl ?_
              refine WL.pass 184 rfl (Nat.le_of_ble_eq_true rfl) rfl ?_
              refine WL.pure (v := .bool false) 185 rfl (Nat.le_of_ble_eq_true rfl) rfl rfl (by kernel_rfl) ?_
              refine WL.nil ?_
              refine WQ.then ?_
              refine hK75 _ _ _ ?_
              refine WC.sub (l' := [(0, vS g N N), (1, vI (a : Int)), (2, vI (m : Int)), (3, vI (c : Int)), (4, .func (.func 33) #[] #[vP b3 0]), (18, vI (d : Int)), (19, vI ((d + m : Nat) : Int)), (20, vI (s : Int)), (21, vI (s : Int)), (22, vI ((d + m - 1 : Nat) : Int)), (24, vI ((d + m - s : Nat) : Int)), (151, .bool false), (185, .bool false)]) ⟨rfl, rfl, rfl, rfl, rfl, rfl, rfl, rfl, rfl, rfl, rfl, rfl, rfl, trivial⟩ ?_
              refine WC.no rfl ?_
              refine WC.skip ?_
              refine WQ.sub (l' := [(0, vS g N N), (1, vI (a : Int)), (2, vI (m : Int)), (3, vI (c : Int)), (4, .func (.func 33) #[] #[vP b3 0]), (18, vI (d : Int)), (19, vI ((d + m : Nat) : Int)), (20, vI (s : Int)), (21, vI (s : Int)), (22, vI ((d + m - 1 : Nat) : Int)), (24, vI ((d + m - s : Nat) : Int)), (151, .bool false)]) ⟨rfl, rfl, rfl, rfl, rfl, rfl, rfl, rfl, rfl, rfl, rfl, rfl, trivial⟩ ?_
              exact WQ.cut ⟨x, rfl, Pm.refl _ _ _, fun p => rot_none (by omega) (by omega) p, hH65⟩
          ·
            rintro lz w79 ⟨y, rfl, hPy, hRy, hH78⟩
            obtain ⟨hq1, hq2, hq3, hq4⟩ := hHf.parts hSl hSr hRy
            have hy := hPy.bd hcN hx
            refine WC.cut (fun lz w2 => ∃ (z1 : Nat → Int), lz = [(0, vS g N N), (1, vI (a : Int)), (2, vI (m : Int)), (3, vI (c : Int)), (4, .func (.func 33) #[] #[vP b3 0]), (18, vI (d : Int)), (19, vI ((d + m : Nat) : Int)), (20, vI (s : Int)), (21, vI (s : Int)), (22, vI ((d + m - 1 : Nat) : Int)), (24, vI ((d + m - s : Nat) : Int)), (151, .bool false)] ∧ (Pm a d y z1) ∧ (Sd κ a d z1) ∧ HP (Ng g) w w2 [.cel g (irow N z1) 3]) ?_ ?_
            ·
              refine WC.seq fun K80 hK80 => ?_
              refine WC.region ?_
              refine WL.pure (v := vI (a : Int)) 192 rfl (Nat.le_of_ble_eq_true rfl) rfl rfl (by kernel_rfl) ?_
              refine WL.pure (v := vI (s : Int)) 193 rfl (Nat.le_of_ble_eq_true rfl) rfl rfl (by kernel_rfl) ?_
              by_cases c1 : (a : Int) < (s : Int)
              ·
                refine WL.pure (v := .bool true) 194 rfl (Nat.le_of_ble_eq_true rfl) rfl rfl (x_lss rfl rfl rfl (dT (c1))) ?_
                refine WL.pure (v := .bool true) 195 rfl (Nat.le_of_ble_eq_true rfl) rfl rfl (by kernel_rfl) ?_
                refine WL.pure (v := vI (s : Int)) 196 rfl (Nat.le_of_ble_eq_true rfl) rfl rfl (by kernel_rfl) ?_
                refine WL.pure (v := vI (d : Int)) 197 rfl (Nat.le_of_ble_eq_true rfl) rfl rfl (by kernel_rfl) ?_
                by_cases c2 : (s : Int) < (d : Int)
                ·
                  refine WL.pure (v := .bool true) 198 rfl (Nat.le_of_ble_eq_true rfl) rfl rfl (x_lss rfl rfl rfl (dT (c2))) ?_
                  refine WL.pure (v := .bool true) 199 rfl (Nat.le_of_ble_eq_true rfl) rfl rfl (by kernel_rfl) ?_
                  refine WL.nil ?_
                  refine WQ.then ?_
                  refine hK80 _ _ _ ?_
                  refine WC.sub (l' := [(0, vS g N N), (1, vI (a : Int)), (2, vI (m : Int)), (3, vI (c : Int)), (4, .func (.func 33) #[] #[vP b3 0]), (18, vI (d : Int)), (19, vI ((d + m : Nat) : Int)), (20, vI (s : Int)), (21, vI (s : Int)), (22, vI ((d + m - 1 : Nat) : Int)), (24, vI ((d + m - s : Nat) : Int)), (151, .bool false), (199, .bool true)]) ⟨rfl, rfl, rfl, rfl, rfl, rfl, rfl, rfl, rfl, rfl, rfl, rfl, rfl, trivial⟩ ?_
                  refine WC.yes rfl ?_
                  refine WC.region ?_
                  refine WL.pure (v := vS g N N) 200 rfl (Nat.le_of_ble_eq_true rfl) rfl rfl (by kernel_rfl) ?_
                  refine WL.pure (v := vI (a : Int)) 201 rfl (Nat.le_of_ble_eq_true rfl) rfl rfl (by kernel_rfl) ?_
                  refine WL.pure (v := vI (s : Int)) 202 rfl (Nat.le_of_ble_eq_true rfl) rfl rfl (by kernel_rfl) ?_
                  refine WL.pure (v := vI (d : Int)) 203 rfl (Nat.le_of_ble_eq_true rfl) rfl rfl (by kernel_rfl) ?_
                  refine WL.pure (v := .func (.func 33) #[] #[vP b3 0]) 204 rfl (Nat.le_of_ble_eq_true rfl) rfl rfl (by kernel_rfl) ?_
                  refine WL.call (f := 49) (args := #[vS g N N, vI (a : Int), vI (s : Int), vI (d : Int), .func (.func 33) #[] #[vP b3 0]]) 205 rfl (Nat.le_of_ble_eq_true rfl) rfl rfl (by kernel_rfl) ?_
                  refine (hIH a s d y _ (by omega) (HP.ownB (A := []) hH78) (hK.step hH78) hy (by omega) (by omega) (by omega) hq1 hq2).mono ?_
                  rintro e w81 ⟨z, rfl, ⟨hPz, hSz⟩, hb4⟩
                  refine ⟨_, rfl, ?_⟩
                  have hH82 : HP (Ng g) w _ [.cel g (irow N z) 3] := (seqN hH78 hb4)
                  refine WL.nil ?_
                  refine WQ.sub (l' := [(0, vS g N N), (1, vI (a : Int)), (2, vI (m : Int)), (3, vI (c : Int)), (4, .func (.func 33) #[] #[vP b3 0]), (18, vI (d : Int)), (19, vI ((d + m : Nat) : Int)), (20, vI (s : Int)), (21, vI (s : Int)), (22, vI ((d + m - 1 : Nat) : Int)), (24, vI ((d + m - s : Nat) : Int)), (151, .bool false)]) ⟨rfl, rfl, rfl, rfl, rfl, rfl, rfl, rfl, rfl, rfl, rfl, rfl, trivial⟩ ?_
                  exact WQ.cut ⟨z, rfl, hPz, hSz, hH82⟩
                ·
                  refine WL.pure (v := .bool false) 198 rfl (Nat.le_of_ble_eq_true rfl) rfl rfl (x_lss rfl rfl rfl (dF (c2))) ?_
                  refine WL.pure (v := .bool false) 199 rfl (Nat.le_of_ble_eq_true rfl) rfl rfl (by kernel_rfl) ?_
                  refine WL.nil ?_
                  refine WQ.then ?_
                  refine hK80 _ _ _ ?_
                  refine WC.sub (l' := [(0, vS g N N), (1, vI (a : Int)), (2, vI (m : Int)), (3, vI (c : Int)), (4, .func (.func 33) #[] #[vP b3 0]), (18, vI (d : Int)), (19, vI ((d + m : Nat) : Int)), (20, vI (s : Int)), (21, vI (s : Int)), (22, vI ((d + m - 1 : Nat) : Int)), (24, vI ((d + m - s : Nat) : Int)), (151, .bool false), (199, .bool false)]) ⟨rfl, rfl, rfl, rfl, rfl, rfl, rfl, rfl, rfl, rfl, rfl, rfl, rfl, trivial⟩ ?_
                  refine WC.no rfl ?_
                  refine WC.skip ?_
                  refine WQ.sub (l' := [(0, vS g N N), (1, vI (a : Int)), (2, vI (m : Int)), (3, vI (c : Int)), (4, .func (.func 33) #[] #[vP b3 0]), (18, vI (d : Int)), (19, vI ((d + m : Nat) : Int)), (20, vI (s : Int)), (21, vI (s : Int)), (22, vI ((d + m - 1 : Nat) : Int)), (24, vI ((d + m - s : Nat) : Int)), (151, .bool false)]) ⟨rfl, rfl, rfl, rfl, rfl, rfl, rfl, rfl, rfl, rfl, rfl, rfl, trivial⟩ ?_
                  exact WQ.cut ⟨y, rfl, Pm.refl _ _ _, sd_flat hq1 hq2 (by omega), hH78⟩
              ·
                refine WL.pure (v := .bool false) 194 rfl (Nat.le_of_ble_eq_true rfl) rfl rfl (x_lss rfl rfl rfl (dF (c1))) ?_
                refine WL.pure (v := .bool false) 195 rfl (Nat.le_of_ble_eq_true rfl) rfl rfl (by kernel_rfl) ?_
                refine WL.pass 196 rfl (Nat.le_of_ble_eq_true rfl) rfl ?_
                refine WL.pass 197 rfl (Nat.le_of_ble_eq_true rfl) rfl ?_
                refine WL.pass 198 rfl (Nat.le_of_ble_eq_true rfl) rfl ?_
                refine WL.pure (v := .bool false) 199 rfl (Nat.le_of_ble_eq_true rfl) rfl rfl (by kernel_rfl) ?_
                refine WL.nil ?_
                refine WQ.then ?_
                refine hK80 _ _ _ ?_
                refine WC.sub (l' := [(0, vS g N N), (1, vI (a : Int)), (2, vI (m : Int)), (3, vI (c : Int)), (4, .func (.func 33) #[] #[vP b3 0]), (18, vI (d : Int)), (19, vI ((d + m : Nat) : Int)), (20, vI (s : Int)), (21, vI (s : Int)), (22, vI ((d + m - 1 : Nat) : Int)), (24, vI ((d + m - s : Nat) : Int)), (151, .bool false), (199, .bool false)]) ⟨rfl, rfl, rfl, rfl, rfl, rfl, rfl, rfl, rfl, rfl, rfl, rfl, rfl, trivial⟩ ?_
                refine WC.no rfl ?_
                refine WC.skip ?_
                refine WQ.sub (l' := [(0, vS g N N), (1, vI (a : Int)), (2, vI (m : Int)), (3, vI (c : Int)), (4, .func (.func 33) #[] #[vP b3 0]), (18, vI (d : Int)), (19, vI ((d + m : Nat) : Int)), (20, vI (s : Int)), (21, vI (s : Int)), (22, vI ((d + m - 1 : Nat) : Int)), (24, vI ((d + m - s : Nat) : Int)), (151, .bool false)]) ⟨rfl, rfl, rfl, rfl, rfl, rfl, rfl, rfl, rfl, rfl, rfl, rfl, trivial⟩ ?_
                exact WQ.cut ⟨y, rfl, Pm.refl _ _ _, sd_flat hq1 hq2 (by omega), hH78⟩
            ·
              rintro lz w84 ⟨z1, rfl, hP1, hS1, hH83⟩
              have hzb := hP1.bd (by omega) hy
              refine WC.seq fun K85 hK85 => ?_
              refine WC.region ?_
              refine WL.pure (v := vI (d : Int)) 206 rfl (Nat.le_of_ble_eq_true rfl) rfl rfl (by kernel_rfl) ?_
              refine WL.pure (v := vI ((d + m - s : Nat) : Int)) 207 rfl (Nat.le_of_ble_eq_true rfl) rfl rfl (by kernel_rfl) ?_
              by_cases c1 : (d : Int) < ((d + m - s : Nat) : Int)
              ·
                refine WL.pure (v := .bool true) 208 rfl (Nat.le_of_ble_eq_true rfl) rfl rfl (x_lss rfl rfl rfl (dT (c1))) ?_
                refine WL.pure (v := .bool true) 209 rfl (Nat.le_of_ble_eq_true rfl) rfl rfl (by kernel_rfl) ?_
                refine WL.pure (v := vI ((d + m - s : Nat) : Int)) 210 rfl (Nat.le_of_ble_eq_true rfl) rfl rfl (by kernel_rfl) ?_
                refine WL.pure (v := vI (c : Int)) 211 rfl (Nat.le_of_ble_eq_true rfl) rfl rfl (by kernel_rfl) ?_
                by_cases c2 : ((d + m - s : Nat) : Int) < (c : Int)
                ·
                  refine WL.pure (v := .bool true) 212 rfl (Nat.le_of_ble_eq_true rfl) rfl rfl (x_lss rfl rfl rfl (dT (c2))) ?_
                  refine WL.pure (v := .bool true) 213 rfl (Nat.le_of_ble_eq_true rfl) rfl rfl (by kernel_rfl) ?_
                  refine WL.nil ?_
                  refine WQ.then ?_
                  refine hK85 _ _ _ ?_
                  refine WC.sub (l' := [(0, vS g N N), (1, vI (a : Int)), (2, vI (m : Int)), (3, vI (c : Int)), (4, .func (.func 33) #[] #[vP b3 0]), (18, vI (d : Int)), (19, vI ((d + m : Nat) : Int)), (20, vI (s : Int)), (21, vI (s : Int)), (22, vI ((d + m - 1 : Nat) : Int)), (24, vI ((d + m - s : Nat) : Int)), (151, .bool false), (213, .bool true)]) ⟨rfl, rfl, rfl, rfl, rfl, rfl, rfl, rfl, rfl, rfl, rfl, rfl, rfl, trivial⟩ ?_
                  refine WC.yes rfl ?_
                  refine WC.region ?_
                  refine WL.pure (v := vS g N N) 214 rfl (Nat.le_of_ble_eq_true rfl) rfl rfl (by kernel_rfl) ?_
                  refine WL.pure (v := vI (d : Int)) 215 rfl (Nat.le_of_ble_eq_true rfl) rfl rfl (by kernel_rfl) ?_
                  refine WL.pure (v := vI ((d + m - s : Nat) : Int)) 216 rfl (Nat.le_of_ble_eq_true rfl) rfl rfl (by kernel_rfl) ?_
                  refine WL.pure (v := vI (c : Int)) 217 rfl (Nat.le_of_ble_eq_true rfl) rfl rfl (by kernel_rfl) ?_
                  refine WL.pure (v := .func (.func 33) #[] #[vP b3 0]) 218 rfl (Nat.le_of_ble_eq_true rfl) rfl rfl (by kernel_rfl) ?_
                  refine WL.call (f := 49) (args := #[vS g N N, vI (d : Int), vI ((d + m - s : Nat) : Int), vI (c : Int), .func (.func 33) #[] #[vP b3 0]]) 219 rfl (Nat.le_of_ble_eq_true rfl) rfl rfl (by kernel_rfl) ?_
                  refine (hIH d (d + m - s) c z1 _ (by omega) (HP.ownB (A := []) hH83) (hK.step hH83) hzb (by omega) (by omega) (by omega) (hq3.eq fun p g1 g2 => hP1.out (by omega)) (hq4.eq fun p g1 g2 => hP1.out (by omega))).mono ?_
                  rintro e w86 ⟨z, rfl, ⟨hPz, hSz⟩, hb4⟩
                  refine ⟨_, rfl, ?_⟩
                  have hH87 : HP (Ng g) w _ [.cel g (irow N z) 3] := (seqN hH83 hb4)
                  refine WL.nil ?_
                  refine WQ.end0 rfl ?_
                  exact ⟨z, rfl, ⟨hPy.trans ((hP1.mono (by omega) (by omega)).trans (hPz.mono (by omega) (by omega))), Sd.join (fun u v g1 g2 => hHf.le hSl hSr hRy g1 g2) hP1 hPz (by omega) hS1 hSz⟩, hH87⟩
                ·
                  refine WL.pure (v := .bool false) 212 rfl (Nat.le_of_ble_eq_true rfl) rfl rfl (x_lss rfl rfl rfl (dF (c2))) ?_
                  refine WL.pure (v := .bool false) 213 rfl (Nat.le_of_ble_eq_true rfl) rfl rfl (by kernel_rfl) ?_
                  refine WL.nil ?_
                  refine WQ.then ?_
                  refine hK85 _ _ _ ?_
                  refine WC.sub (l' := [(0, vS g N N), (1, vI (a : Int)), (2, vI (m : Int)), (3, vI (c : Int)), (4, .func (.func 33) #[] #[vP b3 0]), (18, vI (d : Int)), (19, vI ((d + m : Nat) : Int)), (20, vI (s : Int)), (21, vI (s : Int)), (22, vI ((d + m - 1 : Nat) : Int)), (24, vI ((d + m - s : Nat) : Int)), (151, .bool false), (213, .bool false)]) ⟨rfl, rfl, rfl, rfl, rfl, rfl, rfl, rfl, rfl, rfl, rfl, rfl, rfl, trivial⟩ ?_
                  refine WC.no rfl ?_
                  refine WC.skip ?_
                  refine WQ.end0 rfl ?_
                  exact ⟨z1, rfl, ⟨hPy.trans (hP1.mono (by omega) (by omega)), Sd.join (fun u v g1 g2 => hHf.le hSl hSr hRy g1 g2) hP1 (Pm.refl _ _ _) (by omega) hS1 (sd_flat (hq3.eq fun p g1 g2 => hP1.out (by omega)) (hq4.eq fun p g1 g2 => hP1.out (by omega)) (by omega))⟩, hH83⟩
              ·
                refine WL.pure (v := .bool false) 208 rfl (Nat.le_of_ble_eq_true rfl) rfl rfl (x_lss rfl rfl rfl (dF (c1))) ?_
                refine WL.pure (v := .bool false) 209 rfl (Nat.le_of_ble_eq_true rfl) rfl rfl (by kernel_rfl) ?_
                refine WL.pass 210 rfl (Nat.le_of_ble_eq_true rfl) rfl ?_
                refine WL.pass 211 rfl (Nat.le_of_ble_eq_true rfl) rfl ?_
                refine WL.pass 212 rfl (Nat.le_of_ble_eq_true rfl) rfl ?_
                refine WL.pure (v := .bool false) 213 rfl (Nat.le_of_ble_eq_true rfl) rfl rfl (by kernel_rfl) ?_
                refine WL.nil ?_
                refine WQ.then ?_
                refine hK85 _ _ _ ?_
                refine WC.sub (l' := [(0, vS g N N), (1, vI (a : Int)), (2, vI (m : Int)), (3, vI (c : Int)), (4, .func (.func 33) #[] #[vP b3 0]), (18, vI (d : Int)), (19, vI ((d + m : Nat) : Int)), (20, vI (s : Int)), (21, vI (s : Int)), (22, vI ((d + m - 1 : Nat) : Int)), (24, vI ((d + m - s : Nat) : Int)), (151, .bool false), (213, .bool false)]) ⟨rfl, rfl, rfl, rfl, rfl, rfl, rfl, rfl, rfl, rfl, rfl, rfl, rfl, trivial⟩ ?_
                refine WC.no rfl ?_
                refine WC.skip ?_
                refine WQ.end0 rfl ?_
                exact ⟨z1, rfl, ⟨hPy.trans (hP1.mono (by omega) (by omega)), Sd.join (fun u v g1 g2 => hHf.le hSl hSr hRy g1 g2) hP1 (Pm.refl _ _ _) (by omega) hS1 (sd_flat (hq3.eq fun p g1 g2 => hP1.out (by omega)) (hq4.eq fun p g1 g2 => hP1.out (by omega)) (by omega))⟩, hH83⟩
theorem symB_all {g b3 nq N : Nat} {κ : Int → Int} (hN4 : N ≤ 1000) : ∀ k, SymB g b3 nq N κ k
  | 0 => fun a m c x w h => absurd h (Nat.not_lt_zero _)
  | k + 1 => fun a m c x w h hB hK hx h1 h2 h3 h4 h5 => symM_any g b3 nq N κ x a m c w hB hK hN4 hx h1 h2 h3 h4 h5 fun a m c x w h6 => symB_all hN4 k a m c x w (by omega)
end Bs
end Go.Proofs.Yteckbfebemofmaa
