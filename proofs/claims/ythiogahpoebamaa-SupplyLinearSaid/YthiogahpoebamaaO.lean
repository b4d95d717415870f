/- Contracts of Better, of the program and of the reference. -/
import Derived.Test.YthiogahpoebamaaP
set_option linter.unusedVariables false
set_option linter.unusedSimpArgs false
namespace Go.Proofs.Ythiogahpoebamaa
open Go.RowKit Go.Sort Sup

/-- does the first supply give at least what the second gives, in all windows below k? -/
def be (F S G T : Int) : Nat → Bool
  | 0 => true
  | k + 1 => be F S G T k && decide (ah G T (k : Int) ≤ ah F S (k : Int))
theorem be_false (F S G T : Int) {k n : Nat} (h : be F S G T k = false) : k ≤ n → be F S G T n = false := by
  induction n with
  | zero => intro hk; obtain rfl : k = 0 := by omega
            exact h
  | succ n ih =>
    intro hk
    by_cases e : k = n + 1
    · subst e; exact h
    · rw [be, ih (by omega)]; rfl

theorem prod_b (F G : Int) (h1 : 1 ≤ F) (h2 : F ≤ 60) (h3 : 1 ≤ G) (h4 : G ≤ 60) : 1 ≤ F * G ∧ F * G ≤ 3600 := by
  have a : 1 * 1 ≤ F * G := Int.mul_le_mul h1 h3 (by omega) (by omega)
  have b : F * G ≤ 60 * 60 := Int.mul_le_mul h2 h4 (by omega) (by omega)
  omega

theorem better_ok (F S G T : Int) (w : World) (hv : vld F S = true) (hu : vld G T = true) :
    Calls Try.prog 28 #[.agg #[.int .i64 F, .int .i64 S], .agg #[.int .i64 G, .int .i64 T]] w fun e w' => e = .returned (.tuple #[.bool (be F S G T (F * G + 1).toNat), .int .i64 0]) ∧ Below w.heap.size w w' := by
  obtain ⟨h1, h2, h3, h4⟩ := vld_t hv
  obtain ⟨g1, g2, g3, g4⟩ := vld_t hu
  obtain ⟨p1, p2⟩ := prod_b F G h1 h2 g1 g2
  obtain ⟨N, hN1, hN2⟩ : ∃ N : Nat, (N : Int) ≤ F * G + 1 ∧ F * G + 1 ≤ (N : Int) := ⟨(F * G + 1).toNat, by omega, by omega⟩
  have HN := hide (show (F * G + 1).toNat = N by omega)
  have Hv := hide hv
  have Hu := hide hu
  clear hv hu
  go_enter Try.func28, Try.ntmps28
  go_wp2_with fail
  refine (valid_any F S _).mono ?_
  rintro e w1 ⟨rfl, hb1⟩
  rw [Hv.out]
  obtain ⟨hc1, hf1⟩ := bcell hb1
  go_wp2_with fail
  refine (valid_any G T _).mono ?_
  rintro e w2 ⟨rfl, hb2⟩
  rw [Hu.out]
  obtain ⟨hc2, hf2⟩ := bcell hb2
  have hz1 : w.heap.size + 2 ≤ w1.heap.size := by have := hb1.size; simpa using this
  have hz2 : w.heap.size + 2 ≤ w2.heap.size := Nat.le_trans hz1 hb2.size
  have hB : Below (w.heap.size + 2) ((w.alloc (.cells #[.int .i64 F, .int .i64 S] 23)).alloc (.cells #[.int .i64 G, .int .i64 T] 23)) w2 := (hb1.mono (by simp)).trans (hb2.mono hz1)
  have c0 : w2.cell? ⟨w.heap.size, 0, none⟩ = some (.int .i64 F) := by rw [hB.cell (by simp)]; simp
  have d0 : w2.cell? ⟨w.heap.size + 1, 0, none⟩ = some (.int .i64 G) := by rw [hB.cell (by simp)]; simp
  clear hc1 hf1 hc2 hf2 hb1 hb2 hz1
  go_wp2_with fail
  go_loopw [25] (fun i wr => ∃ k : Nat, k ≤ N ∧ i = .int .i64 (k : Int) ∧ Hid (be F S G T k = true) ∧ Below (w.heap.size + 2) ((w.alloc (.cells #[.int .i64 F, .int .i64 S] 23)).alloc (.cells #[.int .i64 G, .int .i64 T] 23)) wr)
    (fun i _ => (N - intOf i).toNat)
  case atStart => exact ⟨0, by omega, by simp, hide rfl, hB⟩
  case round =>
    clear hB c0 d0 hz2
    obtain ⟨k, hk, rfl, hs, hB⟩ := hrel
    have c0 : wr.cell? ⟨w.heap.size, 0, none⟩ = some (.int .i64 F) := by rw [hB.cell (by simp)]; simp
    have c1 : wr.cell? ⟨w.heap.size, 1, none⟩ = some (.int .i64 S) := by rw [hB.cell (by simp)]; simp
    have d0 : wr.cell? ⟨w.heap.size + 1, 0, none⟩ = some (.int .i64 G) := by rw [hB.cell (by simp)]; simp
    have d1 : wr.cell? ⟨w.heap.size + 1, 1, none⟩ = some (.int .i64 T) := by rw [hB.cell (by simp)]; simp
    have hbw : Below w.heap.size w wr := (below2 w _ _).trans (hB.mono (by omega))
    have hsz : w.heap.size + 2 ≤ wr.heap.size := by have := hB.size; simpa using this
    by_cases hlt : (k : Int) < F * G + 1
    · go_wp2_with fail
      refine (least_ok F S _ _ Hv.out (by omega) (by omega)).mono ?_
      rintro e w3 ⟨rfl, hb3⟩
      have d0' : w3.cell? ⟨w.heap.size + 1, 0, none⟩ = some (.int .i64 G) := by rw [hb3.cell (by exact hsz)]; exact d0
      have d1' : w3.cell? ⟨w.heap.size + 1, 1, none⟩ = some (.int .i64 T) := by rw [hb3.cell (by exact hsz)]; exact d1
      have hsz3 := Nat.le_trans hsz hb3.size
      clear c0 c1 d0 d1
      go_wp2_with fail
      refine (least_ok G T _ _ Hu.out (by omega) (by omega)).mono ?_
      rintro e w4 ⟨rfl, hb4⟩
      clear d0' d1'
      go_wp2_with fail
      · go_ret2
        have hf : be F S G T (k + 1) = false := by rw [be, hs.out]; simp; omega
        exact ⟨by rw [HN.out, be_false F S G T hf (by omega)]; rfl, hbw.trans ((hb3.mono (by omega)).trans (hb4.mono (by omega)))⟩
      · exact ⟨⟨k + 1, by omega, by push_cast; rfl, hide (by rw [be, hs.out]; simp; omega), hB.trans ((hb3.mono hsz).trans (hb4.mono hsz3))⟩, by simp [intOf]; omega⟩
    · go_wp2_with fail
      go_ret2
      obtain rfl : k = N := by omega
      exact ⟨by rw [HN.out, hs.out]; rfl, hbw⟩

theorem rbetter_ok (F S G T : Int) (w : World) (hv : vld F S = true) (hu : vld G T = true) :
    Calls Try.prog 29 #[.agg #[.int .i64 F, .int .i64 S], .agg #[.int .i64 G, .int .i64 T]] w fun e w' => e = .returned (.tuple #[.bool (be F S G T (F * G + 1).toNat), .int .i64 0]) ∧ Below w.heap.size w w' := by
  obtain ⟨h1, h2, h3, h4⟩ := vld_t hv
  obtain ⟨g1, g2, g3, g4⟩ := vld_t hu
  obtain ⟨p1, p2⟩ := prod_b F G h1 h2 g1 g2
  obtain ⟨N, hN1, hN2⟩ : ∃ N : Nat, (N : Int) ≤ F * G + 1 ∧ F * G + 1 ≤ (N : Int) := ⟨(F * G + 1).toNat, by omega, by omega⟩
  have HN := hide (show (F * G + 1).toNat = N by omega)
  have Hv := hide hv
  have Hu := hide hu
  clear hv hu
  go_enter Try.func29, Try.ntmps29
  go_wp2_with fail
  refine (rvalid_any F S _).mono ?_
  rintro e w1 ⟨rfl, hb1⟩
  rw [Hv.out]
  obtain ⟨hc1, hf1⟩ := bcell hb1
  go_wp2_with fail
  refine (rvalid_any G T _).mono ?_
  rintro e w2 ⟨rfl, hb2⟩
  rw [Hu.out]
  have hz1 : w.heap.size + 2 ≤ w1.heap.size := by have := hb1.size; simpa using this
  have hB : Below (w.heap.size + 2) ((w.alloc (.cells #[.int .i64 F, .int .i64 S] 23)).alloc (.cells #[.int .i64 G, .int .i64 T] 23)) w2 := (hb1.mono (by simp)).trans (hb2.mono hz1)
  clear hc1 hf1 hb1 hb2 hz1
  go_wp2_with fail
  go_loopw [6] (fun i wr => ∃ k : Nat, k ≤ N ∧ i = .int .i64 (k : Int) ∧ Hid (be F S G T k = true) ∧ Below (w.heap.size + 2) ((w.alloc (.cells #[.int .i64 F, .int .i64 S] 23)).alloc (.cells #[.int .i64 G, .int .i64 T] 23)) wr)
    (fun i _ => (N - intOf i).toNat)
  case atStart => exact ⟨0, by omega, by simp, hide rfl, hB⟩
  case round =>
    clear hB
    obtain ⟨k, hk, rfl, hs, hB⟩ := hrel
    have c0 : wr.cell? ⟨w.heap.size, 0, none⟩ = some (.int .i64 F) := by rw [hB.cell (by simp)]; simp
    have c1 : wr.cell? ⟨w.heap.size, 1, none⟩ = some (.int .i64 S) := by rw [hB.cell (by simp)]; simp
    have d0 : wr.cell? ⟨w.heap.size + 1, 0, none⟩ = some (.int .i64 G) := by rw [hB.cell (by simp)]; simp
    have d1 : wr.cell? ⟨w.heap.size + 1, 1, none⟩ = some (.int .i64 T) := by rw [hB.cell (by simp)]; simp
    have hbw : Below w.heap.size w wr := (below2 w _ _).trans (hB.mono (by omega))
    have hsz : w.heap.size + 2 ≤ wr.heap.size := by have := hB.size; simpa using this
    by_cases hlt : (k : Int) ≤ F * G
    · go_wp2_with fail
      refine (rleast_ok F S _ _ Hv.out (by omega) (by omega)).mono ?_
      rintro e w3 ⟨rfl, hb3⟩
      have d0' : w3.cell? ⟨w.heap.size + 1, 0, none⟩ = some (.int .i64 G) := by rw [hb3.cell (by exact hsz)]; exact d0
      have d1' : w3.cell? ⟨w.heap.size + 1, 1, none⟩ = some (.int .i64 T) := by rw [hb3.cell (by exact hsz)]; exact d1
      have hsz3 := Nat.le_trans hsz hb3.size
      clear c0 c1 d0 d1
      go_wp2_with fail
      refine (rleast_ok G T _ _ Hu.out (by omega) (by omega)).mono ?_
      rintro e w4 ⟨rfl, hb4⟩
      clear d0' d1'
      go_wp2_with fail
      · go_ret2
        have hf : be F S G T (k + 1) = false := by rw [be, hs.out]; simp; omega
        exact ⟨by rw [HN.out, be_false F S G T hf (by omega)]; rfl, hbw.trans ((hb3.mono (by omega)).trans (hb4.mono (by omega)))⟩
      · exact ⟨⟨k + 1, by omega, by push_cast; rfl, hide (by rw [be, hs.out]; simp; omega), hB.trans ((hb3.mono hsz).trans (hb4.mono hsz3))⟩, by simp [intOf]; omega⟩
    · go_wp2_with fail
      go_ret2
      obtain rfl : k = N := by omega
      exact ⟨by rw [HN.out, hs.out]; rfl, hbw⟩

theorem better_no (F S G T : Int) (w : World) (hv : (vld F S && vld G T) = false) :
    Calls Try.prog 28 #[.agg #[.int .i64 F, .int .i64 S], .agg #[.int .i64 G, .int .i64 T]] w fun e w' => e = .returned (.tuple #[.bool false, .int .i64 1]) ∧ Below w.heap.size w w' := by
  by_cases hh : vld F S = true
  · have Hv := hide hh
    have Hu := hide (show vld G T = false by rw [hh] at hv; simpa using hv)
    clear hv hh
    go_enter Try.func28, Try.ntmps28
    go_wp2_with fail
    refine (valid_any F S _).mono ?_
    rintro e w1 ⟨rfl, hb1⟩
    rw [Hv.out]
    obtain ⟨hc1, hf1⟩ := bcell hb1
    go_wp2_with fail
    refine (valid_any G T _).mono ?_
    rintro e w2 ⟨rfl, hb2⟩
    rw [Hu.out]
    have hz1 : w.heap.size + 2 ≤ w1.heap.size := by have := hb1.size; simpa using this
    clear hc1 hf1
    go_wp2_with fail
    go_ret2
    exact ⟨rfl, (below2 w _ _).trans ((hb1.mono (by simp; omega)).trans (hb2.mono (by omega)))⟩
  · have Hv := hide (Bool.eq_false_iff.2 hh)
    clear hv hh
    go_enter Try.func28, Try.ntmps28
    go_wp2_with fail
    refine (valid_any F S _).mono ?_
    rintro e w1 ⟨rfl, hb1⟩
    rw [Hv.out]
    go_wp2_with fail
    go_ret2
    exact ⟨rfl, (below2 w _ _).trans (hb1.mono (by simp; omega))⟩

theorem rbetter_no (F S G T : Int) (w : World) (hv : (vld F S && vld G T) = false) :
    Calls Try.prog 29 #[.agg #[.int .i64 F, .int .i64 S], .agg #[.int .i64 G, .int .i64 T]] w fun e w' => e = .returned (.tuple #[.bool false, .int .i64 1]) ∧ Below w.heap.size w w' := by
  by_cases hh : vld F S = true
  · have Hv := hide hh
    have Hu := hide (show vld G T = false by rw [hh] at hv; simpa using hv)
    clear hv hh
    go_enter Try.func29, Try.ntmps29
    go_wp2_with fail
    refine (rvalid_any F S _).mono ?_
    rintro e w1 ⟨rfl, hb1⟩
    rw [Hv.out]
    obtain ⟨hc1, hf1⟩ := bcell hb1
    go_wp2_with fail
    refine (rvalid_any G T _).mono ?_
    rintro e w2 ⟨rfl, hb2⟩
    rw [Hu.out]
    have hz1 : w.heap.size + 2 ≤ w1.heap.size := by have := hb1.size; simpa using this
    clear hc1 hf1
    go_wp2_with fail
    go_ret2
    exact ⟨rfl, (below2 w _ _).trans ((hb1.mono (by simp; omega)).trans (hb2.mono (by omega)))⟩
  · have Hv := hide (Bool.eq_false_iff.2 hh)
    clear hv hh
    go_enter Try.func29, Try.ntmps29
    go_wp2_with fail
    refine (rvalid_any F S _).mono ?_
    rintro e w1 ⟨rfl, hb1⟩
    rw [Hv.out]
    go_wp2_with fail
    go_ret2
    exact ⟨rfl, (below2 w _ _).trans (hb1.mono (by simp; omega))⟩
end Go.Proofs.Ythiogahpoebamaa
