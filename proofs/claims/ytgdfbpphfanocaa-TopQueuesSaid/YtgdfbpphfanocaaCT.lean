/- The program's table: what lies in memory, and the small functions. -/
import Derived.Test.YtgdfbpphfanocaaCB
set_option linter.unusedVariables false
set_option linter.unusedSimpArgs false
namespace Go.Proofs.Ytgdfbpphfanocaa
open Go.RowKit Go.Sort
namespace Lc

theorem regrown_same {P : Program} {f : FuncId} {args : Array Value} {w : World} {d : Nat} {os : Array Obj} {v : Value}
    (h : Calls P f args (grow (redrawn w d) os) fun e w' => e = .returned v ∧ grow (redrawn w d) os = w') : Calls P f args (grow (redrawn w d) os) fun e w'' => e = .returned v ∧ ∃ p : Regrown, w'' = grow (redrawn w p.d) p.os :=
  h.mono fun _ _ ⟨he, hw⟩ => ⟨he, ⟨d, os⟩, hw.symm⟩
theorem mixed : Try.prog.follows .mixedOrders = true := by kernel_rfl
theorem drewN_below {B : Nat} {a w : World} (h : Below B a w) (n : Nat) : Below B a (w.drewN n) := ⟨h.os, h.tape, h.output, h.size, h.block⟩
/-- a cell of a table -/
structure Cl where
  u : Bool
  k : Int
  v : Int
/-- a table in memory: its block b, the block c of its n cells -/
structure Tab (w : World) (b c n : Nat) (t : Nat → Cl) : Prop where
  s : w.cell? ⟨b, 0, none⟩ = some (.slice (some ⟨c, 0, none⟩) n n)
  u : ∀ i, i < n → w.cell? ⟨c, i * 3, none⟩ = some (.bool (t i).u)
  k : ∀ i, i < n → w.cell? ⟨c, i * 3 + 1, none⟩ = some (.int .i64 (t i).k)
  v : ∀ i, i < n → w.cell? ⟨c, i * 3 + 2, none⟩ = some (.int .i64 (t i).v)
  f0 : ∀ i, i < n → w.frozen? ⟨c, i * 3, none⟩ = false
  f1 : ∀ i, i < n → w.frozen? ⟨c, i * 3 + 1, none⟩ = false
  f2 : ∀ i, i < n → w.frozen? ⟨c, i * 3 + 2, none⟩ = false
  ne : b ≠ c
  bz : b < w.heap.size
  cz : c < w.heap.size
theorem Tab.below {w w' : World} {b c n : Nat} {t : Nat → Cl} (h : Tab w b c n t) (hb : Below w.heap.size w w') : Tab w' b c n t :=
  ⟨by rw [hb.cell h.bz]; exact h.s, fun i hi => by rw [hb.cell h.cz]; exact h.u i hi, fun i hi => by rw [hb.cell h.cz]; exact h.k i hi, fun i hi => by rw [hb.cell h.cz]; exact h.v i hi,
   fun i hi => by rw [hb.frozen h.cz]; exact h.f0 i hi, fun i hi => by rw [hb.frozen h.cz]; exact h.f1 i hi, fun i hi => by rw [hb.frozen h.cz]; exact h.f2 i hi, h.ne, Nat.lt_of_lt_of_le h.bz hb.size, Nat.lt_of_lt_of_le h.cz hb.size⟩

theorem tmod_bd (a n : Int) (hn : 1 ≤ n) : -n < a.tmod n ∧ a.tmod n < n := by
  rcases Int.le_total 0 a with h | h
  · have := Int.tmod_nonneg n h
    have := Int.tmod_lt_of_pos a (b := n) (by omega)
    omega
  · have h1 : a.tmod n = -((-a).tmod n) := by rw [Int.neg_tmod]; omega
    have := Int.tmod_nonneg n (show 0 ≤ -a by omega)
    have := Int.tmod_lt_of_pos (-a) (b := n) (by omega)
    omega
theorem home_eq (a n : Int) (hn : 1 ≤ n) : (a.tmod n + n).tmod n = a % n := by
  have hb := tmod_bd a n hn
  rw [Int.tmod_eq_emod_of_nonneg (by omega), Int.add_emod_right]
  have h1 : a.tmod n = a - n * a.tdiv n := by have := Int.tmod_add_mul_tdiv a n; omega
  rw [h1, Int.sub_mul_emod_self_left]

theorem home_eq2 (a n : Int) (hn : 1 ≤ n) : (a.tmod n + n) % n = a % n := by
  rw [Int.add_emod_right]
  have h1 : a.tmod n = a - n * a.tdiv n := by have := Int.tmod_add_mul_tdiv a n; omega
  rw [h1, Int.sub_mul_emod_self_left]

theorem isWord_any (n : Int) (w : World) :
    Calls Try.prog 51 #[.int .i64 n] w fun e w' => e = .returned (.bool (decide (-2147483648 ≤ n) && decide (n ≤ 2147483647))) ∧ w = w' := by
  by_cases h1 : -2147483648 ≤ n
  · go_enter Try.func51, Try.ntmps51
    go_wp2_with fail
    go_ret
    exact ⟨by simp [h1], rfl⟩
  · go_enter Try.func51, Try.ntmps51
    go_wp2_with fail
    go_ret
    exact ⟨by simp; omega, rfl⟩
theorem none_any (b c n : Nat) (t : Nat → Cl) (w : World) (h : Tab w b c n t) (hn : 1 ≤ n) (hn2 : n ≤ 32) :
    Calls Try.prog 50 #[.pointer (some ⟨b, 0, none⟩)] w fun e w' => e = .returned (.bool false) ∧ w = w' := by
  have hs := h.s
  have h0 : ((n : Int) == 0) = false := by simp; omega
  go_enter Try.func50, Try.ntmps50
  go_wp2_with fail
  go_ret
  exact ⟨rfl, rfl⟩
theorem home_any (b c n : Nat) (t : Nat → Cl) (key : Int) (w : World) (h : Tab w b c n t) (hn : 1 ≤ n) (hn2 : n ≤ 32) (hk : -2147483648 ≤ key ∧ key ≤ 2147483647) :
    Calls Try.prog 53 #[.pointer (some ⟨b, 0, none⟩), .int .i64 key] w fun e w' => e = .returned (.int .i64 (key % (n : Int))) ∧ w = w' := by
  have hs := h.s
  have hb := tmod_bd key n (by omega)
  have hb2 := tmod_bd (key.tmod n + n) n (by omega)
  have h0 : ((n : Int) == 0) = false := by simp; omega
  have h1 : ¬ ((n : Int) = 0) := by omega
  go_enter Try.func53, Try.ntmps53
  go_wp2_with fail
  go_ret
  exact ⟨ret_i (home_eq2 key n (by omega)), rfl⟩

/-- the cell at which the k-th step looks -/
def atk (n : Nat) (key : Int) (k : Nat) : Nat := ((key % (n : Int)).toNat + k) % n
def hit (t : Nat → Cl) (n : Nat) (key : Int) (k : Nat) : Bool := !(t (atk n key k)).u || (t (atk n key k)).k == key
/-- the first k from which on the test holds -/
def sc (p : Nat → Bool) : Nat → Nat → Nat
  | 0, k => k
  | j + 1, k => if p k then k else sc p j (k + 1)
theorem sc_at {p : Nat → Bool} : ∀ (j k m : Nat), (∀ i, k ≤ i → i < m → p i = false) → k ≤ m → m < k + j → p m = true → sc p j k = m
  | 0, k, m, _, h1, h2, _ => by omega
  | j + 1, k, m, h, h1, h2, hp => by
    unfold sc
    by_cases c : k = m
    · subst c; rw [hp]; rfl
    · rw [h k (Nat.le_refl _) (by omega)]
      exact sc_at j (k + 1) m (fun i hi hm => h i (by omega) hm) (by omega) (by omega) hp
theorem sc_no {p : Nat → Bool} : ∀ (j k : Nat), (∀ i, k ≤ i → i < k + j → p i = false) → sc p j k = k + j
  | 0, _, _ => rfl
  | j + 1, k, h => by
    unfold sc
    rw [h k (Nat.le_refl _) (by omega)]
    have := sc_no j (k + 1) (fun i hi hm => h i (by omega) (by omega))
    simp only [Bool.false_eq_true, if_false]
    omega
def fnd (t : Nat → Cl) (n : Nat) (key : Int) : Int × Int := if sc (hit t n key) n 0 < n then ((atk n key (sc (hit t n key) n 0) : Int), (sc (hit t n key) n 0 : Int) + 1) else (-1, (n : Int))
theorem atk_eq (n : Nat) (key : Int) (k : Nat) (hn : 1 ≤ n) : (key % (n : Int) + (k : Int)) % (n : Int) = (atk n key k : Int) := by
  have h0 := Int.emod_nonneg key (b := (n : Int)) (by omega)
  unfold atk
  rw [Int.natCast_emod]
  push_cast
  rw [Int.toNat_of_nonneg h0]
theorem atk_lt (n : Nat) (key : Int) (k : Nat) (hn : 1 ≤ n) : atk n key k < n := Nat.mod_lt _ (by omega)

theorem fnd_hit {t : Nat → Cl} {n : Nat} {key : Int} {k : Nat} (hk : k < n) (h : ∀ j, 0 ≤ j → j < k → hit t n key j = false) (hh : hit t n key k = true) : fnd t n key = ((atk n key k : Int), (k : Int) + 1) := by
  have e : sc (hit t n key) n 0 = k := sc_at n 0 k h (Nat.zero_le _) (by omega) hh
  unfold fnd; rw [e, if_pos hk]
theorem fnd_no {t : Nat → Cl} {n : Nat} {key : Int} (h : ∀ j, 0 ≤ j → j < n → hit t n key j = false) : fnd t n key = (-1, (n : Int)) := by
  have e : sc (hit t n key) n 0 = 0 + n := sc_no n 0 (fun i hi hm => h i hi (by omega))
  unfold fnd; rw [e, if_neg (by omega)]
set_option maxHeartbeats 4000000 in
theorem find_any (b c n : Nat) (t : Nat → Cl) (key : Int) (w : World) (h : Tab w b c n t) (hn : 1 ≤ n) (hn2 : n ≤ 32) (hk : -2147483648 ≤ key ∧ key ≤ 2147483647) :
    Calls Try.prog 52 #[.pointer (some ⟨b, 0, none⟩), .int .i64 key] w fun e w' => e = .returned (.tuple #[.int .i64 (fnd t n key).1, .int .i64 (fnd t n key).2]) ∧ Below w.heap.size w w' := by
  have hs := h.s
  go_enter Try.func52, Try.ntmps52
  go_wp2_with fail
  go_loopw [13] (fun i wr => ∃ k : Nat, k ≤ n ∧ i = .int .i64 (k : Int) ∧ Hid (∀ j, 0 ≤ j → j < k → hit t n key j = false) ∧ Below w.heap.size w wr) (fun i _ => ((n : Int) - intOf i).toNat)
  case atStart => exact ⟨0, by omega, rfl, hide (fun j _ hj => absurd hj (by omega)), Below.refl _ _⟩
  case round =>
    obtain ⟨k, hk1, rfl, hh, hb⟩ := hrel
    have ht := h.below hb
    have hs' := ht.s
    by_cases hlt : k < n
    · have hkn : (k : Int) < (n : Int) := by omega
      have hb3 := Int.emod_nonneg key (b := (n : Int)) (by omega)
      have hb4 := Int.emod_lt_of_pos key (b := (n : Int)) (by omega)
      have h0 : ((n : Int) == 0) = false := by simp; omega
      have h1 : ¬ ((n : Int) = 0) := by omega
      have ha := atk_eq n key k hn
      have hal := atk_lt n key k hn
      have hlt2 : (atk n key k : Int) < (n : Int) := by omega
      have k0 := cell_regrown hs'
      have q0 : ∀ dd oo, Calls Try.prog 53 #[.pointer (some ⟨b, 0, none⟩), .int .i64 key] (grow (redrawn wr dd) oo) fun e w'' => e = .returned (.int .i64 (key % (n : Int))) ∧ ∃ p : Regrown, w'' = grow (redrawn wr p.d) p.os := fun dd oo => regrown_same (home_any b c n t key _ (ht.below (below_regrown wr dd oo)) hn hn2 hk)
      have Q0 := hide q0
      clear q0
      go_wp2_with fail
      refine wp_region_quiet_below mixed (by kernel_rfl) ?_
      repeat (go_big_quiet_step (first | with_reducible exact Q0.out _ _))
      refine wpQuiet_nil ?_
      intro _ hw'
      obtain ⟨⟨dq, osq⟩, hw''⟩ := hw'
      subst hw''
      have hb5 := below_regrown wr dq osq
      clear k0 Q0
      generalize grow (redrawn wr dq) osq = w2 at *
      have ht2 := ht.below hb5
      have hb6 := hb.trans (hb5.mono hb.size)
      clear ht hb hb5 hs' hs
      have hsz := hb6.size
      have hs2 := ht2.s
      have u2 := ht2.u _ hal
      have k2 := ht2.k _ hal
      have v2 := ht2.v _ hal
      cases hu : (t (atk n key k)).u
      · have hH : hit t n key k = true := by unfold hit; rw [hu]; rfl
        have HF := hide (fnd_hit hlt hh.out hH)
        rw [hu] at u2
        clear hu
        go_wp2_with fail
        go_ret2
        exact ⟨ret2_i (by rw [HF.out]; exact ha) (by rw [HF.out]), by go_grown⟩
      · rw [hu] at u2
        by_cases hke : (t (atk n key k)).k = key
        · have hH : hit t n key k = true := by unfold hit; rw [hu, hke]; simp
          have HF := hide (fnd_hit hlt hh.out hH)
          have hke2 : ((t (atk n key k)).k == key) = true := by simpa using hke
          clear hu
          go_wp2_with fail
          go_ret2
          exact ⟨ret2_i (by rw [HF.out]; exact ha) (by rw [HF.out]), by go_grown⟩
        · have hH : hit t n key k = false := by unfold hit; rw [hu]; simpa using hke
          have hke2 : ((t (atk n key k)).k == key) = false := by simpa using hke
          clear hu
          go_wp2_with fail
          refine ⟨⟨k + 1, by omega, by push_cast; rfl, hide (fun j hj hj2 => ?_), by go_grown⟩, by simp [intOf]; omega⟩
          by_cases c : j < k
          · exact hh.out j hj c
          · obtain rfl : j = k := by omega
            exact hH
    · obtain rfl : k = n := by omega
      have HF := hide (fnd_no hh.out)
      go_wp2_with fail
      go_quiet (fail)
      go_wp2_with fail
      go_ret2
      exact ⟨ret2_i (by rw [HF.out]) (by rw [HF.out]), drewN_below hb _⟩
end Lc
end Go.Proofs.Ytgdfbpphfanocaa
