/- Contracts of Smaller and Better, of the program and of the reference. -/
import Derived.Test.YthiogahpoebamaaQ
set_option linter.unusedVariables false
set_option linter.unusedSimpArgs false
namespace Go.Proofs.Ythiogahpoebamaa
open Go.RowKit Go.Sort Sup

/-- the greatest slice below k with which n ticks come within W, or -1 -/
def sm (F n W : Int) : Nat → Int
  | 0 => -1
  | k + 1 => if lo F (k : Int) n ≤ W then (k : Int) else sm F n W k

theorem vld_mk {F S : Int} (h1 : 1 ≤ F) (h2 : F ≤ 60) (h3 : 0 ≤ S) (h4 : S < F) : vld F S = true := decide_eq_true ⟨h1, h2, h3, by omega⟩

theorem smaller_ok (F S n W : Int) (w : World) (hv : vld F S = true) (hn : 0 ≤ n) (hn2 : n ≤ 1000000000) (hW : 0 ≤ W) (hW2 : W ≤ 1000000) :
    Calls Try.prog 36 #[.agg #[.int .i64 F, .int .i64 S], .int .i64 n, .int .i64 W] w fun e w' => e = .returned (.tuple #[.int .i64 (sm F n W F.toNat), .int .i64 0]) ∧ Below w.heap.size w w' := by
  obtain ⟨h1, h2, h3, h4⟩ := vld_t hv
  obtain ⟨N, hN1, hN2⟩ : ∃ N : Nat, (N : Int) ≤ F ∧ F ≤ (N : Int) := ⟨F.toNat, by omega, by omega⟩
  have HN := hide (show F.toNat = N by omega)
  have Hv := hide hv
  clear hv
  go_enter Try.func36, Try.ntmps36
  go_wp2_with (go_at_call 19; refine (longest_ok _ _ _ _ Hv.out hn hn2).mono ?_; rintro e w1 ⟨rfl, hb1⟩; obtain ⟨hc1, hf1⟩ := bcell hb1)
  clear hc1 hf1
  go_loopw [10] (fun i wr => ∃ k : Nat, k ≤ N ∧ i = .int .i64 ((k : Int) - 1) ∧ Hid (sm F n W N = sm F n W k) ∧ Below (w.heap.size + 1) (w.alloc (.cells #[.int .i64 F, .int .i64 S] 23)) wr)
    (fun i _ => (intOf i + 1).toNat)
  case atStart => exact ⟨N, by omega, by rw [show F = (N : Int) by omega], hide rfl, by simpa using hb1⟩
  case round =>
    obtain ⟨k, hk, rfl, hs, hb⟩ := hrel
    have c0 : wr.cell? ⟨w.heap.size, 0, none⟩ = some (.int .i64 F) := by rw [hb.cell (by simp)]; simp
    have hbw : Below w.heap.size w wr := ((Below.refl _ _).alloc (Nat.le_refl _) _).trans (hb.mono (by omega))
    have hsz : w.heap.size + 1 ≤ wr.heap.size := by have := hb.size; simpa using this
    clear hb1
    by_cases hlt : (k : Int) < 1
    · go_wp2_with fail
      go_ret2
      obtain rfl : k = 0 := by omega
      exact ⟨ret2_i (by rw [HN.out, hs.out]; rfl) rfl, hbw⟩
    · obtain ⟨j, rfl⟩ : ∃ j, k = j + 1 := ⟨k - 1, by omega⟩
      have ej : ((j + 1 : Nat) : Int) - 1 = (j : Int) := by push_cast; omega
      rw [ej]
      clear ej
      go_wp2_with (go_at_call 19; refine (longest_ok _ _ _ _ (vld_mk h1 h2 (by omega) (by omega)) hn hn2).mono ?_; rintro e w3 ⟨rfl, hb3⟩)
      · go_ret2
        exact ⟨ret2_i (by rw [HN.out, hs.out, sm, if_pos (by assumption)]) rfl, hbw.trans (hb3.mono (by omega))⟩
      · exact ⟨⟨j, by omega, rfl, hide (by rw [hs.out, sm, if_neg (by omega)]), hb.trans (hb3.mono hsz)⟩, by simp [intOf]⟩

theorem smaller_no (F S n W : Int) (w : World) (hv : (vld F S && decide (0 ≤ n) && decide (n ≤ 1000000000) && (decide (0 ≤ W) && decide (W ≤ 1000000))) = false) :
    Calls Try.prog 36 #[.agg #[.int .i64 F, .int .i64 S], .int .i64 n, .int .i64 W] w fun e w' => e = .returned (.tuple #[.int .i64 0, .int .i64 1]) ∧ Below w.heap.size w w' := by
  by_cases hh : (vld F S && decide (0 ≤ n) && decide (n ≤ 1000000000)) = true
  · have hW : ¬ (0 ≤ W ∧ W ≤ 1000000) := by
      rw [hh] at hv; simp at hv; omega
    have hq : vld F S = true ∧ 0 ≤ n ∧ n ≤ 1000000000 := by
      simp only [Bool.and_eq_true, decide_eq_true_eq] at hh; exact ⟨hh.1.1, hh.1.2, hh.2⟩
    have Hv := hide hq.1
    have g1 := hq.2.1
    have g2 := hq.2.2
    clear hv hh hq
    by_cases c : W < 0
    · clear hW
      go_enter Try.func36, Try.ntmps36
      go_wp2_with (go_at_call 19; refine (longest_ok _ _ _ _ Hv.out g1 g2).mono ?_; rintro e w1 ⟨rfl, hb1⟩; obtain ⟨hc1, hf1⟩ := bcell hb1)
      go_ret2
      exact ⟨rfl, ((Below.refl _ _).alloc (Nat.le_refl _) _).trans (hb1.mono (by simp))⟩
    · have c2 : 1000000 < W := by omega
      clear hW
      go_enter Try.func36, Try.ntmps36
      go_wp2_with (go_at_call 19; refine (longest_ok _ _ _ _ Hv.out g1 g2).mono ?_; rintro e w1 ⟨rfl, hb1⟩; obtain ⟨hc1, hf1⟩ := bcell hb1)
      go_ret2
      exact ⟨rfl, ((Below.refl _ _).alloc (Nat.le_refl _) _).trans (hb1.mono (by simp))⟩
  · have Hv := hide (Bool.eq_false_iff.2 hh)
    clear hv hh
    go_enter Try.func36, Try.ntmps36
    go_wp2_with (go_at_call 19; refine (longest_no _ _ _ _ Hv.out).mono ?_; rintro e w1 ⟨rfl, hb1⟩; obtain ⟨hc1, hf1⟩ := bcell hb1)
    go_ret2
    exact ⟨rfl, ((Below.refl _ _).alloc (Nat.le_refl _) _).trans (hb1.mono (by simp))⟩

theorem rsmaller_ok (F S n W : Int) (w : World) (hv : vld F S = true) (hn : 0 ≤ n) (hn2 : n ≤ 1000000000) (hW : 0 ≤ W) (hW2 : W ≤ 1000000) :
    Calls Try.prog 37 #[.agg #[.int .i64 F, .int .i64 S], .int .i64 n, .int .i64 W] w fun e w' => e = .returned (.tuple #[.int .i64 (sm F n W F.toNat), .int .i64 0]) ∧ Below w.heap.size w w' := by
  obtain ⟨h1, h2, h3, h4⟩ := vld_t hv
  obtain ⟨N, hN1, hN2⟩ : ∃ N : Nat, (N : Int) ≤ F ∧ F ≤ (N : Int) := ⟨F.toNat, by omega, by omega⟩
  have HN := hide (show F.toNat = N by omega)
  have Hv := hide hv
  clear hv
  have E1 := hide (show (decide (0 ≤ n) && decide (n ≤ 1000000000)) = true by simp; omega)
  have E2 := hide (show (decide (0 ≤ W) && decide (W ≤ 1000000)) = true by simp; omega)
  go_enter Try.func37, Try.ntmps37
  go_wp2_with (first
    | (go_at_call 15; refine (rvalid_any _ _ _).mono ?_; rintro e w1 ⟨rfl, hb1⟩; rw [Hv.out]; obtain ⟨hc1, hf1⟩ := bcell hb1)
    | (go_at_call 48; refine (in_any _ _ _ _).mono ?_; rintro e w2 ⟨rfl, rfl⟩; first | rw [E1.out] | rw [E2.out]))
  clear hc1 hf1
  go_loopw [8, 9] (fun b i wr => ∃ k : Nat, k ≤ N ∧ i = .int .i64 (k : Int) ∧ b = .int .i64 (sm F n W k) ∧ Below (w.heap.size + 1) (w.alloc (.cells #[.int .i64 F, .int .i64 S] 23)) wr)
    (fun _ i _ => (N - intOf i).toNat)
  case atStart => exact ⟨0, by omega, by simp, by simp [sm], by simpa using hb1⟩
  case round =>
    obtain ⟨k, hk, rfl, rfl, hb⟩ := hrel
    have c0 : wr.cell? ⟨w.heap.size, 0, none⟩ = some (.int .i64 F) := by rw [hb.cell (by simp)]; simp
    have hbw : Below w.heap.size w wr := ((Below.refl _ _).alloc (Nat.le_refl _) _).trans (hb.mono (by omega))
    have hsz : w.heap.size + 1 ≤ wr.heap.size := by have := hb.size; simpa using this
    clear hb1
    by_cases hlt : (k : Int) < F
    · go_wp2_with (go_at_call 27; refine (rlongest_ok _ _ _ _ (vld_mk h1 h2 (by omega) (by omega)) hn hn2).mono ?_; rintro e w3 ⟨rfl, hb3⟩)
      · exact ⟨⟨k + 1, by omega, by push_cast; rfl, by rw [sm, if_pos (by assumption)], hb.trans (hb3.mono hsz)⟩, by simp [intOf]; omega⟩
      · exact ⟨⟨k + 1, by omega, by push_cast; rfl, by rw [sm, if_neg (by omega)], hb.trans (hb3.mono hsz)⟩, by simp [intOf]; omega⟩
    · go_wp2_with fail
      go_ret2
      obtain rfl : k = N := by omega
      exact ⟨ret2_i (by rw [HN.out]) rfl, hbw⟩

theorem rsmaller_no (F S n W : Int) (w : World) (hv : (vld F S && decide (0 ≤ n) && decide (n ≤ 1000000000) && (decide (0 ≤ W) && decide (W ≤ 1000000))) = false) :
    Calls Try.prog 37 #[.agg #[.int .i64 F, .int .i64 S], .int .i64 n, .int .i64 W] w fun e w' => e = .returned (.tuple #[.int .i64 0, .int .i64 1]) ∧ Below w.heap.size w w' := by
  by_cases hh : vld F S = true
  · have Hv := hide hh
    rw [hh, Bool.true_and] at hv
    clear hh
    by_cases c1 : (decide (0 ≤ n) && decide (n ≤ 1000000000)) = true
    · have c2 : (decide (0 ≤ W) && decide (W ≤ 1000000)) = false := by rw [c1, Bool.true_and] at hv; exact hv
      have C1 := hide c1
      have C2 := hide c2
      clear hv c1 c2
      go_enter Try.func37, Try.ntmps37
      go_wp2_with (first
        | (go_at_call 15; refine (rvalid_any _ _ _).mono ?_; rintro e w1 ⟨rfl, hb1⟩; rw [Hv.out]; obtain ⟨hc1, hf1⟩ := bcell hb1)
        | (go_at_call 48; refine (in_any _ _ _ _).mono ?_; rintro e w2 ⟨rfl, rfl⟩; first | rw [C1.out] | rw [C2.out]))
      go_ret2
      exact ⟨rfl, ((Below.refl _ _).alloc (Nat.le_refl _) _).trans (hb1.mono (by simp))⟩
    · have C1 := hide (Bool.eq_false_iff.2 c1)
      clear hv c1
      go_enter Try.func37, Try.ntmps37
      go_wp2_with (first
        | (go_at_call 15; refine (rvalid_any _ _ _).mono ?_; rintro e w1 ⟨rfl, hb1⟩; rw [Hv.out]; obtain ⟨hc1, hf1⟩ := bcell hb1)
        | (go_at_call 48; refine (in_any _ _ _ _).mono ?_; rintro e w2 ⟨rfl, rfl⟩; rw [C1.out]))
      go_ret2
      exact ⟨rfl, ((Below.refl _ _).alloc (Nat.le_refl _) _).trans (hb1.mono (by simp))⟩
  · have Hv := hide (Bool.eq_false_iff.2 hh)
    clear hv hh
    go_enter Try.func37, Try.ntmps37
    go_wp2_with (go_at_call 15; refine (rvalid_any _ _ _).mono ?_; rintro e w1 ⟨rfl, hb1⟩; rw [Hv.out]; obtain ⟨hc1, hf1⟩ := bcell hb1)
    go_ret2
    exact ⟨rfl, ((Below.refl _ _).alloc (Nat.le_refl _) _).trans (hb1.mono (by simp))⟩
end Go.Proofs.Ythiogahpoebamaa
