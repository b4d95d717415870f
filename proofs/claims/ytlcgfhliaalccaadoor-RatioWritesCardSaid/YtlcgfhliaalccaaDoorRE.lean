/- Contracts of Make of the program and of the reference. -/
import Derived.Test.YtlcgfhliaalccaaDoorRD
set_option linter.unusedVariables false
set_option linter.unusedSimpArgs false
namespace Go.Proofs.YtlcgfhliaalccaaDoor
open Go.RowKit Go.Sort Rt
namespace Rc

theorem bodyR3 {P : Program} {fn : Func} {a : Act} {w w0 : World} {n d e : Int} {r : R3}
    (hr : (results fn a.tmps).run P w = .ok (.tuple #[.agg #[.int .i64 n, .int .i64 d], .int .i64 e]) w) (hd : a.defers = []) (h1 : n = r.n) (h2 : d = r.d) (h3 : e = r.e) (hb : Below w0.heap.size w0 w) :
    bodyPost P fn (fun e w' => e = .returned (.tuple #[.agg #[.int .i64 r.n, .int .i64 r.d], .int .i64 r.e]) ∧ Below w0.heap.size w0 w') .ret a w :=
  bodyPost_ret hr hd ⟨by rw [h1, h2, h3], hb⟩


theorem prod_bd (a b : Int) (h1 : -1000000000 ≤ a) (h2 : a ≤ 1000000000) (h3 : -1000000000 ≤ b) (h4 : b ≤ 1000000000) : -1000000000000000000 ≤ a * b ∧ a * b ≤ 1000000000000000000 := by
  have e : (a * b).natAbs ≤ 1000000000 * 1000000000 := by rw [Int.natAbs_mul]; exact Nat.mul_le_mul (by omega) (by omega)
  omega
theorem big_t {n : Int} (h : big n = true) : -1000000000000000000 ≤ n ∧ n ≤ 1000000000000000000 := by unfold big at h; simpa using h

theorem make_any (n d : Int) (w : World) :
    Calls Tryd.prog 15 #[.int .i64 n, .int .i64 d] w fun e w' => e = .returned (.tuple #[.agg #[.int .i64 (mk n d).n, .int .i64 (mk n d).d], .int .i64 (mk n d).e]) ∧ Below w.heap.size w w' := by
  by_cases b1 : big n = true
  · obtain ⟨i1, i2⟩ := big_t b1
    by_cases b2 : big d = true
    · obtain ⟨i3, i4⟩ := big_t b2
      have B1 := hide (show (decide (-1000000000000000000 ≤ n) && decide (n ≤ 1000000000000000000)) = true from b1)
      have B2 := hide (show (decide (-1000000000000000000 ≤ d) && decide (d ≤ 1000000000000000000)) = true from b2)
      by_cases h0 : d = 0
      · have HE := hide (show mk n d = ⟨0, 0, 5⟩ by unfold mk; rw [b1, b2, if_pos h0]; rfl)
        have e0 : (d == 0) = true := by simpa using h0
        clear b1 b2 h0
        go_enter Tryd.func15, Tryd.ntmps15
        go_wp2_with (first
          | (go_at_call 18; refine (within_any _ _ _ _).mono ?_; rintro e w1 ⟨rfl, rfl⟩; first | rw [B1.out] | rw [B2.out]))
        refine bodyR3 (n := 0) (d := 0) (e := 5) (by simp [results, Tryd.results15, go_sem]) rfl (by rw [HE.out]) (by rw [HE.out]) (by rw [HE.out]) ?_
        go_grown
      · have HE := hide (show mk n d = out (rat n d) by unfold mk; rw [b1, b2, if_neg h0]; rfl)
        have e0 : (d == 0) = false := by simpa using h0
        have H0 := hide h0
        clear b1 b2 h0
        go_enter Tryd.func15, Tryd.ntmps15
        go_wp2_with (first
          | (go_at_call 18; refine (within_any _ _ _ _).mono ?_; rintro e w1 ⟨rfl, rfl⟩; first | rw [B1.out] | rw [B2.out])
          | (go_at_call 27; refine (low_any _ _ _ (by omega) (by omega) (by omega) (by omega) H0.out).mono ?_; rintro e w2 ⟨rfl, hb2⟩; obtain ⟨hc2, hf2⟩ := bcell hb2; have hz := hb2.size; have hbw : Below w.heap.size w w2 := Below.trans (by go_grown) (hb2.mono (by simp)); clear hb2))
        have a0 : w2.cell? ⟨w.heap.size, 0, none⟩ = some (.int .i64 0) := by rw [hc2 _ _ (by simp)]; simp
        have a1 : w2.cell? ⟨w.heap.size, 1, none⟩ = some (.int .i64 0) := by rw [hc2 _ _ (by simp)]; simp
        clear hc2 hf2
        refine bodyR3 (n := (out (rat n d)).n) (d := (out (rat n d)).d) (e := (out (rat n d)).e) (by simp [results, Tryd.results15, go_sem, a0, a1]) rfl (by rw [HE.out]) (by rw [HE.out]) (by rw [HE.out]) ?_
        go_grown
    · have HE := hide (show mk n d = ⟨0, 0, 1⟩ by unfold mk; rw [b1, Bool.eq_false_iff.2 b2]; rfl)
      have B1 := hide (show (decide (-1000000000000000000 ≤ n) && decide (n ≤ 1000000000000000000)) = true from b1)
      have B2 := hide (show (decide (-1000000000000000000 ≤ d) && decide (d ≤ 1000000000000000000)) = false from Bool.eq_false_iff.2 b2)
      clear b1 b2
      go_enter Tryd.func15, Tryd.ntmps15
      go_wp2_with (first
        | (go_at_call 18; refine (within_any _ _ _ _).mono ?_; rintro e w1 ⟨rfl, rfl⟩; first | rw [B1.out] | rw [B2.out]))
      refine bodyR3 (n := 0) (d := 0) (e := 1) (by simp [results, Tryd.results15, go_sem]) rfl (by rw [HE.out]) (by rw [HE.out]) (by rw [HE.out]) ?_
      go_grown
  · have HE := hide (show mk n d = ⟨0, 0, 1⟩ by unfold mk; rw [Bool.eq_false_iff.2 b1]; rfl)
    have B1 := hide (show (decide (-1000000000000000000 ≤ n) && decide (n ≤ 1000000000000000000)) = false from Bool.eq_false_iff.2 b1)
    clear b1
    go_enter Tryd.func15, Tryd.ntmps15
    go_wp2_with (first
      | (go_at_call 18; refine (within_any _ _ _ _).mono ?_; rintro e w1 ⟨rfl, rfl⟩; rw [B1.out]))
    refine bodyR3 (n := 0) (d := 0) (e := 1) (by simp [results, Tryd.results15, go_sem]) rfl (by rw [HE.out]) (by rw [HE.out]) (by rw [HE.out]) ?_
    go_grown

end Rc
end Go.Proofs.YtlcgfhliaalccaaDoor
