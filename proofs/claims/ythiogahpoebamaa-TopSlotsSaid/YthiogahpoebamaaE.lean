/- Contracts of supply.Between, When and Program. -/
import Derived.Test.YthiogahpoebamaaD
set_option linter.unusedVariables false
set_option linter.unusedSimpArgs false
namespace Go.Proofs.Ythiogahpoebamaa
open Go.RowKit Go.Sort Sup

theorem program_ok (F S t : Int) (w : World) (hv : vld F S = true) (ht : 0 ≤ t) (ht2 : t ≤ 1000000) :
    Calls Try.prog 20 #[.agg #[.int .i64 F, .int .i64 S], .int .i64 t] w fun e w' => e = .returned (.tuple #[.bool (decide (S ≤ t % F)), .int .i64 0]) ∧ Below w.heap.size w w' := by
  obtain ⟨h1, h2, h3, h4⟩ := vld_t hv
  have Hv := hide hv
  clear hv
  have ew : (decide (0 ≤ t) && decide (t ≤ 1000000)) = true := by simp; omega
  go_enter Try.func20, Try.ntmps20
  go_wp2_with (first
    | (go_at_call 23; refine (valid_any _ _ _).mono ?_; rintro e w1 ⟨rfl, hb1⟩; rw [Hv.out]; obtain ⟨hc1, hf1⟩ := bcell hb1)
    | (go_at_call 49; refine (within_any _ _ _ _).mono ?_; rintro e w2 ⟨rfl, rfl⟩; rw [ew]))
  have s0 : w1.cell? ⟨w.heap.size, 0, none⟩ = some (.int .i64 F) := by rw [hc1 _ _ (by simp)]; simp
  have s1 : w1.cell? ⟨w.heap.size, 1, none⟩ = some (.int .i64 S) := by rw [hc1 _ _ (by simp)]; simp
  clear hc1 hf1 ew
  go_quiet (fail)
  go_wp2
  go_ret2
  exact ⟨rfl, Below.drewN (((Below.refl _ _).alloc (Nat.le_refl _) _).trans (hb1.mono (by simp))) _⟩

theorem program_no (F S t : Int) (w : World) (hv : (vld F S && decide (0 ≤ t) && decide (t ≤ 1000000)) = false) :
    Calls Try.prog 20 #[.agg #[.int .i64 F, .int .i64 S], .int .i64 t] w fun e w' => e = .returned (.tuple #[.bool false, .int .i64 1]) ∧ Below w.heap.size w w' := by
  by_cases hh : vld F S = true
  · have Hv := hide hh
    have ew : (decide (0 ≤ t) && decide (t ≤ 1000000)) = false := by rw [hh] at hv; simpa using hv
    clear hv hh
    go_enter Try.func20, Try.ntmps20
    go_wp2_with (first
      | (go_at_call 23; refine (valid_any _ _ _).mono ?_; rintro e w1 ⟨rfl, hb1⟩; rw [Hv.out]; obtain ⟨hc1, hf1⟩ := bcell hb1)
      | (go_at_call 49; refine (within_any _ _ _ _).mono ?_; rintro e w2 ⟨rfl, rfl⟩; rw [ew]))
    go_ret2
    exact ⟨rfl, ((Below.refl _ _).alloc (Nat.le_refl _) _).trans (hb1.mono (by simp))⟩
  · have Hv := hide (Bool.eq_false_iff.2 hh)
    clear hv hh
    go_enter Try.func20, Try.ntmps20
    go_wp2_with (go_at_call 23; refine (valid_any _ _ _).mono ?_; rintro e w1 ⟨rfl, hb1⟩; rw [Hv.out]; obtain ⟨hc1, hf1⟩ := bcell hb1)
    go_ret2
    exact ⟨rfl, ((Below.refl _ _).alloc (Nat.le_refl _) _).trans (hb1.mono (by simp))⟩

theorem between_ok (F S a b : Int) (w : World) (hv : vld F S = true) (ha : 0 ≤ a) (hab : a ≤ b) (hb : b ≤ 1000000) :
    Calls Try.prog 18 #[.agg #[.int .i64 F, .int .i64 S], .int .i64 a, .int .i64 b] w fun e w' => e = .returned (.tuple #[.int .i64 (ah F S b - ah F S a), .int .i64 0]) ∧ Below w.heap.size w w' := by
  obtain ⟨h1, h2, h3, h4⟩ := vld_t hv
  have Hv := hide hv
  clear hv
  go_enter Try.func18, Try.ntmps18
  go_wp2_with (first
    | (go_at_call 23; refine (valid_any _ _ _).mono ?_; rintro e w1 ⟨rfl, hb1⟩; rw [Hv.out]; obtain ⟨hc1, hf1⟩ := bcell hb1)
    | (go_at_call 50; refine (program_any _ _ _ Hv.out).mono ?_; rintro e w2 ⟨rfl, hb2⟩)
    | (go_at_call 52; refine (window_any _ _ _ _ _).mono ?_; rintro e w3 ⟨rfl, rfl⟩)
    | (go_at_call 70; refine (windowed F S (F - S) (b - a) a _ _ _ (held_new F S (F - S) (b - a) _ _ (Below.refl _ _)) h1 h2 ha (by omega) (by omega) (by omega) (by omega) (by omega) h3 (by omega)).mono ?_; rintro e w4 ⟨rfl, hb4⟩))
  go_ret2
  refine ⟨ret2_i (by simp only [ad_ah F S _ (show 0 < F by omega) (show S < F by omega) h3]; rw [show a + (b - a) = b by omega]) rfl, ?_⟩
  exact ((Below.refl _ _).alloc (Nat.le_refl _) _).trans (hb1.mono (by simp)) |>.trans (hb2.mono (by have := hb1.size; simp at this; omega)) |>.trans ((below2 _ _ _).mono (by have := hb1.size; have := hb2.size; simp at *; omega)) |>.trans (hb4.mono (by have := hb1.size; have := hb2.size; simp at *; omega))

theorem between_no (F S a b : Int) (w : World) (hv : (vld F S && decide (0 ≤ a) && decide (a ≤ b) && decide (b ≤ 1000000)) = false) :
    Calls Try.prog 18 #[.agg #[.int .i64 F, .int .i64 S], .int .i64 a, .int .i64 b] w fun e w' => e = .returned (.tuple #[.int .i64 0, .int .i64 1]) ∧ Below w.heap.size w w' := by
  by_cases hh : vld F S = true
  · have Hv := hide hh
    have ew : ¬ (0 ≤ a ∧ a ≤ b ∧ b ≤ 1000000) := by
      intro ⟨x, y, z⟩; rw [hh] at hv; simp [x, y] at hv; omega
    clear hv hh
    by_cases c1 : a < 0
    · go_enter Try.func18, Try.ntmps18
      go_wp2_with (go_at_call 23; refine (valid_any _ _ _).mono ?_; rintro e w1 ⟨rfl, hb1⟩; rw [Hv.out]; obtain ⟨hc1, hf1⟩ := bcell hb1)
      go_ret2
      exact ⟨rfl, ((Below.refl _ _).alloc (Nat.le_refl _) _).trans (hb1.mono (by simp))⟩
    · by_cases c2 : b < a
      · go_enter Try.func18, Try.ntmps18
        go_wp2_with (go_at_call 23; refine (valid_any _ _ _).mono ?_; rintro e w1 ⟨rfl, hb1⟩; rw [Hv.out]; obtain ⟨hc1, hf1⟩ := bcell hb1)
        go_ret2
        exact ⟨rfl, ((Below.refl _ _).alloc (Nat.le_refl _) _).trans (hb1.mono (by simp))⟩
      · have c3 : 1000000 < b := by omega
        clear ew
        go_enter Try.func18, Try.ntmps18
        go_wp2_with (go_at_call 23; refine (valid_any _ _ _).mono ?_; rintro e w1 ⟨rfl, hb1⟩; rw [Hv.out]; obtain ⟨hc1, hf1⟩ := bcell hb1)
        go_ret2
        exact ⟨rfl, ((Below.refl _ _).alloc (Nat.le_refl _) _).trans (hb1.mono (by simp))⟩
  · have Hv := hide (Bool.eq_false_iff.2 hh)
    clear hv hh
    go_enter Try.func18, Try.ntmps18
    go_wp2_with (go_at_call 23; refine (valid_any _ _ _).mono ?_; rintro e w1 ⟨rfl, hb1⟩; rw [Hv.out]; obtain ⟨hc1, hf1⟩ := bcell hb1)
    go_ret2
    exact ⟨rfl, ((Below.refl _ _).alloc (Nat.le_refl _) _).trans (hb1.mono (by simp))⟩

/-- when so many ticks are there -/
def wn (F S a n : Int) : Int := if n = 0 then a else pl F S (ah F S a + n)
theorem wn_wt (F S a n : Int) (h0 : 0 ≤ S) (h1 : S < F) : a + wt F S (F - S) n a = wn F S a n := by
  unfold wt wn
  rw [ad_ah _ _ _ (by omega) h1 h0]
  split
  · omega
  · unfold pd pl; omega

theorem when_ok (F S a n : Int) (w : World) (hv : vld F S = true) (ha : 0 ≤ a) (ha2 : a ≤ 1000000) (hn : 0 ≤ n) (hn2 : n ≤ 1000000000) :
    Calls Try.prog 25 #[.agg #[.int .i64 F, .int .i64 S], .int .i64 a, .int .i64 n] w fun e w' => e = .returned (.tuple #[.int .i64 (wn F S a n), .int .i64 0]) ∧ Below w.heap.size w w' := by
  obtain ⟨h1, h2, h3, h4⟩ := vld_t hv
  have Hv := hide hv
  clear hv
  have ew : (decide (0 ≤ a) && decide (a ≤ 1000000)) = true := by simp; omega
  have ew2 : (decide (0 ≤ n) && decide (n ≤ 1000000000)) = true := by simp; omega
  have bw : -1000000 ≤ wt F S (F - S) n a ∧ wt F S (F - S) n a ≤ 7000000000000 := by
    unfold wt
    have b1 := ad_bd F S (F - S) a h1 (by omega) (by omega) h3 ha
    split
    · omega
    · have b2 := pd_b F (F - S) (ad F S (F - S) a + n) h1 h2 (by omega) (by omega) (by omega)
      unfold pd; omega
  go_enter Try.func25, Try.ntmps25
  go_wp2_with (first
    | (go_at_call 23; refine (valid_any _ _ _).mono ?_; rintro e w1 ⟨rfl, hb1⟩; rw [Hv.out]; obtain ⟨hc1, hf1⟩ := bcell hb1)
    | (go_at_call 49; refine (within_any _ _ _ _).mono ?_; rintro e w2 ⟨rfl, rfl⟩; first | rw [ew] | rw [ew2])
    | (go_at_call 50; refine (program_any _ _ _ Hv.out).mono ?_; rintro e w2 ⟨rfl, hb2⟩)
    | (go_at_call 54; refine (wait_any _ _ _ _ _).mono ?_; rintro e w3 ⟨rfl, rfl⟩)
    | (go_at_call 72; refine (waited F S (F - S) n a _ _ _ (held_new F S (F - S) n _ _ (Below.refl _ _)) h1 h2 ha (by omega) hn (by omega) (by omega) (by omega) (by omega) h3 (by omega)).mono ?_; rintro e w4 ⟨rfl, hb4⟩))
  go_ret2
  refine ⟨ret2_i (wn_wt F S a n h3 (by omega)) rfl, ?_⟩
  exact ((Below.refl _ _).alloc (Nat.le_refl _) _).trans (hb1.mono (by simp)) |>.trans (hb2.mono (by have := hb1.size; simp at this; omega)) |>.trans ((below2 _ _ _).mono (by have := hb1.size; have := hb2.size; simp at *; omega)) |>.trans (hb4.mono (by have := hb1.size; have := hb2.size; simp at *; omega))

theorem when_no (F S a n : Int) (w : World) (hv : (vld F S && (decide (0 ≤ a) && decide (a ≤ 1000000)) && (decide (0 ≤ n) && decide (n ≤ 1000000000))) = false) :
    Calls Try.prog 25 #[.agg #[.int .i64 F, .int .i64 S], .int .i64 a, .int .i64 n] w fun e w' => e = .returned (.tuple #[.int .i64 0, .int .i64 1]) ∧ Below w.heap.size w w' := by
  by_cases hh : vld F S = true
  · have Hv := hide hh
    rw [hh, Bool.true_and] at hv
    clear hh
    by_cases c1 : (decide (0 ≤ a) && decide (a ≤ 1000000)) = true
    · have c2 : (decide (0 ≤ n) && decide (n ≤ 1000000000)) = false := by rw [c1, Bool.true_and] at hv; exact hv
      have C1 := hide c1
      have C2 := hide c2
      clear hv c1 c2
      go_enter Try.func25, Try.ntmps25
      go_wp2_with (first
        | (go_at_call 23; refine (valid_any _ _ _).mono ?_; rintro e w1 ⟨rfl, hb1⟩; rw [Hv.out]; obtain ⟨hc1, hf1⟩ := bcell hb1)
        | (go_at_call 49; refine (within_any _ _ _ _).mono ?_; rintro e w2 ⟨rfl, rfl⟩; first | rw [C1.out] | rw [C2.out]))
      go_ret2
      exact ⟨rfl, ((Below.refl _ _).alloc (Nat.le_refl _) _).trans (hb1.mono (by simp))⟩
    · have C1 := hide (Bool.eq_false_iff.2 c1)
      clear hv c1
      go_enter Try.func25, Try.ntmps25
      go_wp2_with (first
        | (go_at_call 23; refine (valid_any _ _ _).mono ?_; rintro e w1 ⟨rfl, hb1⟩; rw [Hv.out]; obtain ⟨hc1, hf1⟩ := bcell hb1)
        | (go_at_call 49; refine (within_any _ _ _ _).mono ?_; rintro e w2 ⟨rfl, rfl⟩; rw [C1.out]))
      go_ret2
      exact ⟨rfl, ((Below.refl _ _).alloc (Nat.le_refl _) _).trans (hb1.mono (by simp))⟩
  · have Hv := hide (Bool.eq_false_iff.2 hh)
    clear hv hh
    go_enter Try.func25, Try.ntmps25
    go_wp2_with (go_at_call 23; refine (valid_any _ _ _).mono ?_; rintro e w1 ⟨rfl, hb1⟩; rw [Hv.out]; obtain ⟨hc1, hf1⟩ := bcell hb1)
    go_ret2
    exact ⟨rfl, ((Below.refl _ _).alloc (Nat.le_refl _) _).trans (hb1.mono (by simp))⟩
end Go.Proofs.Ythiogahpoebamaa
